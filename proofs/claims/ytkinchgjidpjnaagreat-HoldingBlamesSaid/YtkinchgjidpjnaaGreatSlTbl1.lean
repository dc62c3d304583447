/- Tbl, part 1. Conditions stand in each lemma. -/
import Derived.WalkKit
import Derived.Deep.QuietTactic
import Derived.Deep.Draws
import Derived.Lib.Hide
import Derived.Laws.OwnMore
import Derived.Laws.AppendOwn
import Derived.OwnWalk
import Derived.Maps.AppendAt
import Derived.Deep.RegionHeld3
import Derived.RangeFuncBox
import Derived.RangeFuncLeaves
import Derived.Shelf.Abstract
import Derived.OwnWalkIn
import Derived.TacticsInMore
import Derived.LoopNIn
import Derived.LoopIn
import Derived.Test.YtkinchgjidpjnaaGreatRows
import Derived.Deep.Onto
import Derived.ProofKit
import Derived.ChangeOld
import Derived.OpenShut
import Derived.Deep.Slices
import Derived.BigQuiet
import Derived.IntWalk
import Derived.Lib.SliceRun
import Derived.Deep.LoopGhost
import Derived.WalkSpells
import Derived.WalkLawsBesides
import Derived.Lib.SmallJoins
import Derived.Test.YtkinchgjidpjnaaGreatShelf
import Derived.Test.YtkinchgjidpjnaaGreatDivNorm
import Derived.Deep.DeepCutAuto
import Derived.Deep.CutBlock
import Derived.Shelf.Spec.BitsCarry
import Derived.Test.YtkinchgjidpjnaaGreatFixRefMath
import Derived.Test.YtkinchgjidpjnaaGreatFixDivideMath
import Derived.Handy
import Derived.ArgAppend
import Derived.Laws.CopyRow
import Derived.Lib.AppendZerosOnto
import Derived.Laws.Externs
import Derived.Lib.Overlaps
import Derived.Shelf.RegionOpenPlain
import Derived.Lib.AppendZeros
import Derived.WalkMore
import Derived.Laws.IdiomCopy
import Derived.Laws.StructEq
import Derived.Laws.BytesArg
import Derived.RangeFuncNested
import Derived.Test.YtkinchgjidpjnaaGreatGreatMath
import Derived.Laws.MakeOwn
import Derived.Test.YtkinchgjidpjnaaGreatSlTba5
import Derived.Test.YtkinchgjidpjnaaGreatSlTkn2
import Derived.Test.YtkinchgjidpjnaaGreatSlTne3
set_option linter.unusedVariables false
set_option linter.unusedSimpArgs false
set_option maxRecDepth 100000
set_option maxHeartbeats 64000000
namespace Go.Proofs.YtkinchgjidpjnaaGreat
section
open Go.RowKit
theorem zSlTbl1_0 {P : Prop} (h : P := by (first | with_reducible exact ⟨c0_0, c1_0⟩ | (simp [go_sem, World.cell?_alloc_past, *]; done) | exact ⟨c0_0, c1_0⟩)) : P := h
theorem zSlTbl1_1 {P : Prop} (h : P := by (first | with_reducible exact c0_0 | (simp [go_sem, World.cell?_alloc_past, c0_0, rc0]; done) | exact c0_0)) : P := h
theorem zSlTbl1_2 {P : Prop} (h : P := by rw [show ps.length - (gk - 1) = iy + 1 from by have := HN.out; omega]; have h9 := hst; simp at h9; omega) : P := h
section
variable {w w' : World} {sz n c : Nat} {A : Option Addr} {xs : List Value}
end
theorem own_nil (w : World) (base : Nat) (e : TypeId) (sz : Nat) : w.ownsRow base e sz (.slice none 0 0) 0 [] := World.ownsRow_nil w base e sz
theorem own_parts {w : World} {base : Nat} {e : TypeId} {sz n : Nat} {v : Value} {xs : List Value} (h : w.ownsRow base e sz v n xs) : ∃ A c, v = .slice A n c ∧ Sl w sz A n c xs := by
 rcases h.2 with ⟨rfl, rfl⟩ | ⟨g, cap, cur, rfl, rest⟩
 ·exact ⟨_, _, rfl, Sl.own h⟩
 exact ⟨_, _, rfl, Sl.own h⟩

theorem Sl.ilen {w : World} {A : Option Addr} {n c : Nat} {k : IntKind} {l : List Int} (h : Sl w 1 A n c (iv k l)) : l.length = n := by
 have := h.len; rw [iv_len] at this; omega
theorem Sl.itake {w : World} {A : Option Addr} {n c m : Nat} {k : IntKind} {l : List Int} (h : Sl w 1 A n c (iv k l)) (hm : m ≤ n) : Sl w 1 A m c (iv k (l.take m)) := by
 have := h.take hm
 unfold iv at *
 rwa [Nat.mul_one, ← List.map_take] at this

theorem wpList_append_new {P : Program} (w : World) {ops : Array Oper} {rest : List Oper} {o : Oper} {a : Act} {Q : Exit → Act → World → Prop} (hgd : o.guard = none) (s x : Operand) (t : TypeId)
  (ho : o.op = .call { callee := .builtin .append, args := #[s, x], argTypes := #[t, t] })
  (base : Nat) (e : TypeId) (i : TypeInfo) (z : Value) (size bytes : Nat) (ht : P.underlying t = some (.slice e)) (hi : P.info? e = some i) (hz : i.zero = some z)
  (hsize : i.size = size) (hby : i.bytes = bytes) (hzs : z.cells.size = size) (hsz : 0 < size)
  (v : Value) (n : Nat) (xs : List Value) (hs : a.eval s = v) (hown : w.ownsRow base e size v n xs) (news : Array Value) (c : Nat)
  (hx : a.eval x = .slice (some ⟨w.heap.size, 0, none⟩) 1 c) (hl : news.size = size) (h1 : ∀ u ∈ news.toList, u.oneCell' = true)
  (hn : n < 1099511627776) (hb128 : bytes ≤ 127) (hbase : base ≤ w.heap.size)
  (h : ∀ v' w', w'.ownsRow base e size v' (n + 1) (xs ++ news.toList) → Below base w w' → wpList P ops Q rest (a.put o.dst v') w') :
  wpList P ops Q (o :: rest) a (w.alloc (.cells news e)) := by
 have hcells : ∀ j u, news.toList[j]? = some u → (w.alloc (.cells news e)).cell? ((⟨w.heap.size, 0, none⟩ : Addr).add j) = some u := by
  intro j u hu
  rw [addr_add, Nat.zero_add, cell_of_row _ _ j news e (0, 0) (heap_alloc_new w _)]
  simpa using hu
 have hby2 : (n + 1) * bytes ≤ 140737488355328 := by
  have : (n + 1) * bytes ≤ 1099511627776 * 127 := Nat.mul_le_mul (by omega) hb128
  omega
 refine wpList_append_own (w.alloc (.cells news e)) hgd s x t ho base e i z size bytes ht hi hz hsize hby hzs hsz v n xs hs (hown.alloc _) ⟨w.heap.size, 0, none⟩ 1 c news.toList hx (by simpa using hl) hcells h1
  (by simp [maxLen]; omega) hby2 (by simp; omega) ?_
 intro v' w' h2 h3 h4
 refine h v' w' h2 ?_
 exact ((Below.refl base w).alloc hbase _).grown h3 (by simp; omega) (fun k hk => (hown.lt k hk).1)
theorem iv_snoc (k : IntKind) (l : List Int) (x : Int) : iv k l ++ [Value.int k x] = iv k (l ++ [x]) := by simp [iv]
end
section
open Go.RowKit Go.ChangeShapes Go.WideShapes
theorem fits_of {k : IntKind} {x : Int} (h : (Lit.int k x).wf = true) : Fits k x := h
section
variable {H : Type} {enc : TypeId × Value → H} {P : Program} {w : World} {base : Nat} {spare : Nat → Bool} {held : Bool}
theorem open_raw {t e : TypeId} {sz fuel n c : Nat} {A : Option Addr} {x : DataW H × List MemPlace} (ht : P.underlying t = some (.slice e)) (hsz : P.cellsOf e = sz) (hpos : 0 < sz)
  (h : DataW.trod enc P w base spare held fuel t [.slice A n c] = some x) :
  ∃ xs : List Value, Sl w sz A n c xs ∧ ∀ i, i < n → ∃ m y, DataW.trod enc P w base spare held m e ((xs.drop (i * sz)).take sz) = some y := by
 rcases Go.Deep.open_slice ht h with ⟨h0, _⟩ | ⟨a, len, cap, m, n', D, Pl, hcs, _, hl, hm, hmm, _, hi⟩
 ·simp at h0
  obtain ⟨rfl, rfl, rfl⟩ := h0
  exact ⟨[], Sl.nil _ _, fun i hi => absurd hi (by omega)⟩
 simp at hcs
 obtain ⟨rfl, rfl, rfl⟩ := hcs
 subst hsz
 have hnm : n ≤ m := by rw [hmm]; split <;> omega
 -- the cells, one by one
 have hcell : ∀ i, i < n → ∀ j, j < P.cellsOf e → ∃ v, w.cell? (a.add (i * P.cellsOf e + j)) = some v := by
  intro i hin j hj
  obtain ⟨cs', hc, ht'⟩ := hi i (by omega)
  obtain ⟨_, hcl, hat⟩ := World.cells?_some hc
  refine ⟨cs'[j]'(by omega), ?_⟩
  have := hat j hj
  rw [Go.Deep.add_add] at this
  rw [this, List.getElem?_eq_getElem (by omega)]
 obtain ⟨b, o, spot⟩ := a
 rcases Nat.eq_zero_or_pos n with hn0 | hnp
 ·subst hn0
  exact ⟨[], ⟨by simp, by omega, hm, fun h => absurd h (by omega)⟩, fun i hi => absurd hi (by omega)⟩
 have hspot : spot = none := by
  obtain ⟨v, hv⟩ := hcell 0 hnp 0 hpos
  simpa [Addr.add] using World.cell?_spot hv
 subst hspot
 let f : Nat → Value := fun j => (w.cell? ⟨b, o + j, none⟩).getD undef
 have hf : ∀ j, j < n * P.cellsOf e → w.cell? ⟨b, o + j, none⟩ = some (f j) := by
  intro j hj
  have h1 : j / P.cellsOf e < n := by rw [Nat.div_lt_iff_lt_mul hpos]; exact hj
  obtain ⟨v, hv⟩ := hcell (j / P.cellsOf e) h1 (j % P.cellsOf e) (Nat.mod_lt _ hpos)
  rw [Nat.div_add_mod', addr_add] at hv
  show _ = some ((w.cell? ⟨b, o + j, none⟩).getD undef)
  rw [hv]; rfl
 have hb : b < w.heap.size := by
  have h1 := hf 0 (by exact Nat.mul_pos hnp hpos)
  unfold World.cell? at h1
  rcases hx : w.heap[b]? with _ | ob
  ·simp [hx] at h1
  exact (Array.getElem?_eq_some_iff.1 hx).1
 refine ⟨(List.range (n * P.cellsOf e)).map f, ⟨by simp, by omega, hm, fun _ => ⟨b, o, rfl, hb, fun j u hu => ?_⟩⟩, fun i hin => ?_⟩
 ·rw [List.getElem?_map] at hu
  rcases Nat.lt_or_ge j (n * P.cellsOf e) with hj | hj
  ·rw [List.getElem?_range hj] at hu
   simp at hu
   rw [hf j hj, hu]
  rw [List.getElem?_eq_none (by simpa using hj)] at hu
  simp at hu
 obtain ⟨cs', hc, ht'⟩ := hi i (by omega)
 obtain ⟨_, hcl, hat⟩ := World.cells?_some hc
 have e1 : (((List.range (n * P.cellsOf e)).map f).drop (i * P.cellsOf e)).take (P.cellsOf e) = cs' := by
  apply List.ext_getElem?
  intro j
  rw [List.getElem?_take]
  have hle : (i + 1) * P.cellsOf e ≤ n * P.cellsOf e := Nat.mul_le_mul_right _ hin
  rw [Nat.add_mul, Nat.one_mul] at hle
  split
  ·rename_i hj
   rw [List.getElem?_drop, List.getElem?_map, List.getElem?_range (by omega)]
   have h2 := hat j hj
   rw [Go.Deep.add_add, addr_add] at h2
   rw [← h2, hf _ (by omega)]
   rfl
  rename_i hj
  rw [List.getElem?_eq_none (by omega)]
 exact ⟨n', (D i, Pl i), by rw [e1]; exact ht'⟩
end
end
section
open Go.RowKit Go.ChangeShapes Go.WideShapes Go.Deep Go.Joins
theorem chunks {α : Type} {f : α → List Value} {sz : Nat} (hpos : 0 < sz) {Good : α → Prop} : ∀ (n : Nat) (xs : List Value), xs.length = n * sz →
  (∀ i, i < n → ∃ x, (xs.drop (i * sz)).take sz = f x ∧ Good x) → ∃ l : List α, l.length = n ∧ l.flatMap f = xs ∧ ∀ x ∈ l, Good x
 | 0, xs, hl, _ => ⟨[], rfl, by rw [Nat.zero_mul] at hl; rw [List.eq_nil_of_length_eq_zero hl]; rfl, by simp⟩
 | n + 1, xs, hl, h => by
  obtain ⟨x, hx, gx⟩ := h 0 (by omega)
  rw [Nat.zero_mul, List.drop_zero] at hx
  obtain ⟨l, h1, h2, h3⟩ := chunks hpos n (xs.drop sz) (by rw [List.length_drop, hl, Nat.add_mul, Nat.one_mul]; omega) fun i hi => by
   obtain ⟨y, hy, gy⟩ := h (i + 1) (by omega)
   exact ⟨y, by rw [List.drop_drop]; rw [Nat.add_mul, Nat.one_mul, Nat.add_comm] at hy; exact hy, gy⟩
  exact ⟨x :: l, by simp [h1], by rw [List.flatMap_cons, h2, ← hx, List.take_append_drop], fun z hz => by
   rcases List.mem_cons.1 hz with rfl | hz
   ·exact gx
   ·exact h3 z hz⟩

section
variable {H : Type} {enc : TypeId × Value → H} {P : Program} {w : World} {base : Nat} {spare : Nat → Bool} {held : Bool}
theorem open_rec {α : Type} {f : α → List Value} {Good : α → Prop} {t e : TypeId} {sz n c : Nat} {A : Option Addr} {d : DataW H} {p : List MemPlace} (ht : P.underlying t = some (.slice e)) (hc : P.cellsOf e = sz) (hpos : 0 < sz)
  (hel : ∀ cs m y, DataW.trod enc P w base spare held m e cs = some y → cs.length = sz → ∃ x : α, cs = f x ∧ Good x)
  (h : DataW.Trod enc P w base spare held t (.slice A n c) d p) : ∃ l : List α, Sl w sz A n c (l.flatMap f) ∧ l.length = n ∧ ∀ x ∈ l, Good x := by
 obtain ⟨fuel, hf⟩ := h
 obtain ⟨xs, hs, hr⟩ := open_raw ht hc hpos (by simpa [Value.cells] using hf)
 have hlen := hs.len
 obtain ⟨l, h1, h2, h3⟩ := chunks (f := f) (Good := Good) hpos n xs hlen fun i hi => by
  obtain ⟨m, y, hy⟩ := hr i hi
  have hle : (i + 1) * sz ≤ n * sz := Nat.mul_le_mul_right _ hi
  rw [Nat.add_mul, Nat.one_mul] at hle
  exact hel _ m y hy (by rw [List.length_take, List.length_drop]; omega)
 exact ⟨l, by rw [h2]; exact hs, h1, h3⟩
end
end
section
open Go.RowKit Go.ChangeShapes Go.WideShapes Go.Deep Go.Joins
section
variable {H : Type} {enc : TypeId × Value → H} {P : Program} {w : World} {base : Nat} {spare : Nat → Bool} {held : Bool}
theorem rec4 {t : TypeId} {k0 k1 k2 k3 : IntKind} {f0 f1 f2 f3 : Field} {cs : List Value} {m : Nat} {y : DataW H × List MemPlace} (ht : P.underlying t = some (.struct #[f0, f1, f2, f3])) (hone : oneCellFields P #[f0, f1, f2, f3] = true)
  (h0 : P.underlying f0.type = some (.int k0)) (h1 : P.underlying f1.type = some (.int k1)) (h2 : P.underlying f2.type = some (.int k2)) (h3 : P.underlying f3.type = some (.int k3))
  (h : DataW.trod enc P w base spare held m t cs = some y) (hl : cs.length = 4) : ∃ x : Int × Int × Int × Int, cs = [.int k0 x.1, .int k1 x.2.1, .int k2 x.2.2.1, .int k3 x.2.2.2] ∧ Fits k0 x.1 ∧ Fits k1 x.2.1 ∧ Fits k2 x.2.2.1 ∧ Fits k3 x.2.2.2 := by
 obtain ⟨y0, y1, y2, y3, m', _, _, g0, g1, g2, g3⟩ := trod_struct4 ht h
 obtain ⟨o0, c0⟩ := hone_of hone 0 f0 rfl
 obtain ⟨o1, c1⟩ := hone_of hone 1 f1 rfl
 obtain ⟨o2, c2⟩ := hone_of hone 2 f2 rfl
 obtain ⟨o3, c3⟩ := hone_of hone 3 f3 rfl
 match cs, hl with
 | [v0, v1, v2, v3], _ =>
  rw [o0, c0] at g0
  rw [o1, c1] at g1
  rw [o2, c2] at g2
  rw [o3, c3] at g3
  obtain ⟨a, ha, _, wa⟩ := DataW.trod_int h0 g0
  obtain ⟨b, hb, _, wb⟩ := DataW.trod_int h1 g1
  obtain ⟨c, hc, _, wc⟩ := DataW.trod_int h2 g2
  obtain ⟨d, hd, _, wd⟩ := DataW.trod_int h3 g3
  simp at ha hb hc hd
  subst ha; subst hb; subst hc; subst hd
  exact ⟨(a, b, c, d), rfl, wa, wb, wc, wd⟩
end
end
section
open Go.RowKit
theorem Off.wf {w w' : World} {g o q : Nat} (h : Off w g o q) (hx : WF g o w w') : Off w' g o q :=
 ⟨by have := h.1; have := hx.but.size; omega, by have := h.2.1; have := hx.but.size; omega, fun hs => h.2.2 (hx.row q h.2.1 hs)⟩
theorem SlB.bel {B G : Nat} {w w' : World} {sz n c : Nat} {A : Option Addr} {xs : List Value} (h : SlB B w sz A n c xs) (hx : Below G w w') (hb : B ≤ G) : SlB B w' sz A n c xs := by
 refine ⟨⟨h.1.1, h.1.2.1, h.1.2.2.1, fun hn => ?_⟩, h.2⟩
 obtain ⟨b, o, e, hlt, hc⟩ := h.1.at_ hn
 have h2 := h.2 hn b o none e
 exact ⟨b, o, e, by have := hx.size; omega, fun j u hu => (hx.cell (p := ⟨b, o + j, none⟩) (show b < G by omega)).trans (hc j u hu)⟩
theorem Ext.bel {a b c : World} {g : Nat} (h : Ext a b) (k : Below g b c) (hg : a.heap.size ≤ g) : Ext a c := Below.trans h (k.mono hg)
end
section
open Go.RowKit Go.ChangeShapes Go.WideShapes Go.Deep Go.Joins
section
variable {H : Type} {enc : TypeId × Value → H} {w : World} {base : Nat} {spare : Nat → Bool} {held : Bool}
theorem none_capH {P : Program} {t e : TypeId} {n c : Nat} {A : Option Addr} {x : DataW H × List MemPlace} {fuel : Nat} (ht : P.underlying t = some (.slice e)) (hf : DataW.trod enc P w base spare held fuel t [.slice A n c] = some x) : A = none → c = 0 := by
 intro hA
 subst hA
 rcases Go.Deep.open_slice ht hf with ⟨h0, _⟩ | ⟨a, len, cap, m, n', D, Pl, hcs, _⟩
 ·simp at h0; exact h0.2
 simp at hcs
theorem word_fitsH {x : Int} (h : Fits .u64 x) : Word x := by
 unfold Fits at h
 simp [Lit.wf, IntKind.min, IntKind.max, IntKind.bits, IntKind.signed] at h
 unfold Word
 omega
theorem act_rec {cs : List Value} {m : Nat} {y : DataW H × List MemPlace} (h : DataW.trod enc Tryz.prog w base spare held m 39 cs = some y) (hl : cs.length = 9) : ∃ x : I9, cs = actC x ∧ FitsA x := by
 obtain ⟨xs, n, _, rfl, _, hlen, hf⟩ := DataW.trod_struct Tryz.underlying39 h
 have ci : Tryz.prog.cellsOf 3 = 1 := by kernel_rfl
 have cu : Tryz.prog.cellsOf 32 = 1 := by kernel_rfl
 have ct : Tryz.prog.cellsOf 37 = 4 := by kernel_rfl
 have g0 := hf 0 _ rfl
 have g1 := hf 1 _ rfl
 have g2 := hf 2 _ rfl
 have g3 := hf 3 _ rfl
 have g4 := hf 4 _ rfl
 have g5 := hf 5 _ rfl
 match cs, hl with
 | [v0, v1, v2, v3, v4, v5, v6, v7, v8], _ =>
  match xs, hlen with
  | [y0, y1, y2, y3, y4, y5], _ =>
   simp [ci, cu, ct] at g0 g1 g2 g3 g4 g5
   obtain ⟨a, ha, _, wa⟩ := DataW.trod_int Tryz.underlying3 g0
   obtain ⟨o, ho, _, wo⟩ := DataW.trod_int Tryz.underlying3 g1
   obtain ⟨b, hb, w1, w2, w3, w4⟩ := rec4 (k0 := .i64) (k1 := .i64) (k2 := .i64) (k3 := .i64) Tryz.underlying37 (by kernel_rfl) Tryz.underlying3 Tryz.underlying3 Tryz.underlying3 Tryz.underlying3 g2 rfl
   obtain ⟨c, hc, _, wc⟩ := DataW.trod_int Tryz.underlying3 g3
   obtain ⟨d, hd, _, wd⟩ := DataW.trod_int Tryz.underlying3 g4
   obtain ⟨e, he, _, we⟩ := DataW.trod_int Tryz.underlying32 g5
   simp at ha ho hb hc hd he
   obtain ⟨rfl, rfl, rfl, rfl⟩ := hb
   subst ha; subst ho; subst hc; subst hd; subst he
   exact ⟨(a, o, b.1, b.2.1, b.2.2.1, b.2.2.2, c, d, e), rfl, wa, wo, w1, w2, w3, w4, wc, wd, word_fitsH we⟩
theorem open_hacts {n c : Nat} {A : Option Addr} {d : DataW H} {p : List MemPlace}
  (h : DataW.Trod enc Tryz.prog w base spare held 26 (.slice A n c) d p) : ∃ l : List I9, n = l.length ∧ Sl w 9 A l.length c (l.flatMap actC) ∧ (∀ x ∈ l, FitsA x) ∧ (A = none → c = 0) := by
 have h' := h
 obtain ⟨fuel, hf⟩ := h'
 obtain ⟨l, h1, h2, h3⟩ := open_rec (f := actC) (sz := 9) (Good := FitsA) Tryz.underlying26 (by kernel_rfl) (by decide) (fun cs m y h hl => act_rec h hl) h
 subst h2
 exact ⟨l, rfl, h1, h3, none_capH Tryz.underlying26 (show DataW.trod enc Tryz.prog w base spare held fuel 26 [.slice A l.length c] = some (d, p) by simpa [Value.cells] using hf)⟩
end
end
section
open Go.RowKit Go.ChangeShapes Go.WideShapes Go.Deep Go.Joins
theorem bkdB_neg (V S P F v h : Int) : bkdB V S P F v h (-1) = bkdB V S P F v h 0 := by unfold bkdB; simp
theorem stm_ne (x0 x1 x2 x3 y0 y1 y2 y3 : Int) (w : World) : (binOp .neq 37 (.agg #[.int .i64 x0, .int .i64 x1, .int .i64 x2, .int .i64 x3]) (.agg #[.int .i64 y0, .int .i64 y1, .int .i64 y2, .int .i64 y3])).run Tryz.prog w = .ok (.bool (!(x0 == y0 && x1 == y1 && x2 == y2 && x3 == y3))) w := by
 have hS : Tryz.prog.underlying 37 = some (.struct (Tryz.prog.fieldsOf 37)) := by kernel_rfl
 have hp : Tryz.prog.stoodInHeld 37 = false := by kernel_rfl
 rw [run_neq_struct, show (10000 : Nat) = 9999 + 1 from rfl, run_equalIn_agg w 9999 37 _ _ hS hp]
 simp only [Program.fieldsOf, Tryz.underlying37]
 go_simp
 by_cases h0 : x0 = y0 <;> by_cases h1 : x1 = y1 <;> by_cases h2 : x2 = y2 <;> by_cases h3 : x3 = y3 <;> simp [h0, h1, h2, h3]
theorem pol_ne (x0 x1 y0 y1 : Int) (w : World) : (binOp .neq 61 (.agg #[.int .u64 x0, .int .u64 x1]) (.agg #[.int .u64 y0, .int .u64 y1])).run Tryz.prog w = .ok (.bool (!(x0 == y0 && x1 == y1))) w := by
 have hS : Tryz.prog.underlying 61 = some (.struct (Tryz.prog.fieldsOf 61)) := by kernel_rfl
 have hp : Tryz.prog.stoodInHeld 61 = false := by kernel_rfl
 rw [run_neq_struct, show (10000 : Nat) = 9999 + 1 from rfl, run_equalIn_agg w 9999 61 _ _ hS hp]
 simp only [Program.fieldsOf, Tryz.underlying61]
 go_simp
 by_cases h0 : x0 = y0 <;> by_cases h1 : x1 = y1 <;> simp [h0, h1]
theorem CutJ.start (cl : List I6) (v h p : Int) : CutJ cl v h p 0 [] [] 0 := ⟨by simp [cutCs], by simp [losCs], by simp [losN, addF]⟩
theorem CutJ.skip {cl CL : List I6} {v h p N : Int} {k : Nat} {LS : List I5} {c : I6} (H : CutJ cl v h p k CL LS N) (hc : cl[k]? = some c) (hb : bkC c v h = false) : CutJ cl v h p (k + 1) (CL ++ [c]) LS N := by
 refine ⟨?_, ?_, H.en⟩
 ·rw [H.ecl, take_one hc]; unfold cutCs; rw [List.filterMap_append]; simp [cutC_skip hb]
 rw [H.els, take_one hc]; unfold losCs; rw [List.filterMap_append]; simp [losC_skip hb]
theorem CutJ.sum {cl CL ps : List I6} {v h p N : Int} {k : Nat} {LS : List I5} {a b d e t s : Int} (H : CutJ cl v h p k CL LS N) (hk : HOk cl ps) (hw : ∀ c ∈ cl, WdC c) (p0 : 0 ≤ p) (p1 : p ≤ 1000000000) (hc : cl[k]? = some (a, b, d, e, t, s)) : 0 ≤ N ∧ N + cutN t s p < 18446744073709551616 ∧ 0 ≤ cutN t s p :=
 CutI.sum (CL := CL ++ cl.drop k) (PS := ps.filter (fun x => !goneB v h p (cl.take k) x)) ⟨by rw [H.ecl], rfl, H.els, H.en⟩ hk hw p0 p1 hc
end
section
open Go.RowKit
structure DrI (x T0 S0 T S n : Int) : Prop where
 x0 : 0 < x
 s0 : 0 < S0
 xs : x ≤ S
 lo : x * T0 * S ≤ x * T * S0
 hi : 0 < n → x * T * S0 < x * T0 * S + S0 * S * n
 z : n = 0 → T = T0 ∧ S = S0
 n0 : 0 ≤ n
theorem DrI.start {x T S : Int} (x0 : 0 < x) (xs : x ≤ S) : DrI x T S T S 0 := ⟨x0, by omega, xs, Int.le_refl _, fun h => by omega, fun _ => ⟨rfl, rfl⟩, Int.le_refl _⟩
theorem DrI.step {x T0 S0 T S n T' S' : Int} (h : DrI x T0 S0 T S n) (xs : x ≤ S') (lo : x * T * S' ≤ x * T' * S) (hi : x * T' * S < x * T * S' + S * S') : DrI x T0 S0 T' S' (n + 1) := by
 have hS : 0 < S := by have := h.x0; have := h.xs; omega
 have hS' : 0 < S' := by have := h.x0; omega
 have hup : x * T * S0 ≤ x * T0 * S + S0 * S * n := by
  rcases Int.lt_or_le 0 n with hn | hn
  ·have := h.hi hn; omega
  have hn0 : n = 0 := by have := h.n0; omega
  obtain ⟨e1, e2⟩ := h.z hn0
  rw [e1, e2, hn0, Int.mul_zero]
  omega
 have e1 : x * T' * S0 * S = S0 * (x * T' * S) := by rw [Int.mul_right_comm, Int.mul_comm]
 have e2 : S0 * (x * T * S') = x * T * S0 * S' := by rw [Int.mul_comm, Int.mul_right_comm]
 refine ⟨h.x0, h.s0, xs, ?_, fun _ => ?_, fun hh => by have := h.n0; omega, by have := h.n0; omega⟩
 ·refine Int.le_of_mul_le_mul_right ?_ hS
  have m1 : S0 * (x * T * S') ≤ S0 * (x * T' * S) := Int.mul_le_mul_of_nonneg_left lo (by have := h.s0; omega)
  have m2 : x * T0 * S * S' ≤ x * T * S0 * S' := Int.mul_le_mul_of_nonneg_right h.lo (by omega)
  rw [e1]
  rw [e2] at m1
  rw [Int.mul_right_comm] at m2
  omega
 refine Int.lt_of_mul_lt_mul_right ?_ (show 0 ≤ S by omega)
 have m1 : S0 * (x * T' * S) < S0 * (x * T * S' + S * S') := Int.mul_lt_mul_of_pos_left hi h.s0
 have m2 : x * T * S0 * S' ≤ (x * T0 * S + S0 * S * n) * S' := Int.mul_le_mul_of_nonneg_right hup (by omega)
 rw [Int.mul_add, e2] at m1
 rw [Int.add_mul, Int.mul_right_comm (x * T0)] at m2
 rw [e1, Int.add_mul, Int.mul_add, Int.mul_one, Int.add_mul]
 have e3 : S0 * (S * S') = S0 * S' * S := by rw [Int.mul_comm S S', ← Int.mul_assoc]
 have e4 : S0 * S * n * S' = S0 * S' * n * S := by rw [Int.mul_right_comm (S0 * S) n S', Int.mul_right_comm S0 S S', Int.mul_right_comm (S0 * S') S n]
 omega
theorem pos_le {cl ps : List I6} {p : I6} (hk : HOk cl ps) (hw2 : ∀ x ∈ ps, WdP x) (hp : p ∈ ps) : shP p ≤ fndS cl (stP p) := by
 rw [← hk.fnd]
 exact addF_mem (f := shP) (fun y hy => (hw2 y (List.mem_filter.1 hy).1).1) (List.mem_filter.2 ⟨hp, by simp⟩)
theorem pos_pos {cl ps : List I6} {p : I6} (hk : HOk cl ps) (hw2 : ∀ x ∈ ps, WdP x) (hp : p ∈ ps) : 0 < shP p := by
 have h1 := (hk.pos p hp).2.1
 have h2 := (hw2 p hp).1
 omega
theorem fm_at {α β : Type} (f : α → Option β) {l : List α} {i : Nat} {c : α} {y : β} (h : l[i]? = some c) (hy : f c = some y) : (l.filterMap f)[((l.take i).filterMap f).length]? = some y := by
 have e : l = l.take i ++ c :: l.drop (i + 1) := by
  conv => lhs; rw [← List.take_append_drop i l, drop_at h]
 have e2 : l.filterMap f = (l.take i).filterMap f ++ y :: (l.drop (i + 1)).filterMap f := by
  conv => lhs; rw [e]
  rw [List.filterMap_append, List.filterMap_cons, hy]
 rw [e2, List.getElem?_append_right (Nat.le_refl _), Nat.sub_self]
 rfl
theorem fm_some {α β : Type} (f : α → Option β) {l : List α} {i : Nat} {c : α} {y : β} (h : l[i]? = some c) (hy : f c = some y) : ((l.take (i + 1)).filterMap f).length = ((l.take i).filterMap f).length + 1 := by
 rw [take_one h, List.filterMap_append, List.length_append]
 simp [hy]
theorem fm_none {α β : Type} (f : α → Option β) {l : List α} {i : Nat} {c : α} (h : l[i]? = some c) (hy : f c = none) : ((l.take (i + 1)).filterMap f).length = ((l.take i).filterMap f).length := by
 rw [take_one h, List.filterMap_append, List.length_append]
 simp [hy]
theorem fl_at {α : Type} (f : α → Bool) {l : List α} {i : Nat} {c : α} (h : l[i]? = some c) (hy : f c = true) : (l.filter f)[((l.take i).filter f).length]? = some c := by
 have e : l = l.take i ++ c :: l.drop (i + 1) := by
  conv => lhs; rw [← List.take_append_drop i l, drop_at h]
 have e2 : l.filter f = (l.take i).filter f ++ c :: (l.drop (i + 1)).filter f := by
  conv => lhs; rw [e]
  rw [List.filter_append, List.filter_cons, if_pos hy]
 rw [e2, List.getElem?_append_right (Nat.le_refl _), Nat.sub_self]
 rfl
theorem fl_step {α : Type} (f : α → Bool) {l : List α} {i : Nat} {c : α} (h : l[i]? = some c) : ((l.take (i + 1)).filter f).length = ((l.take i).filter f).length + (if f c = true then 1 else 0) := by
 rw [take_one h, List.filter_append, List.length_append, List.filter_cons]
 split <;> rfl
theorem cut_get {v h p : Int} : ∀ {l : List I6} {c : I6}, SortK kC l → c ∈ l → getK kC (cutCs v h p l) (kC c) = cutC v h p c
 | x :: l, c, hs, hc => by
  have hx : ∀ y ∈ l, cmpK (kC x) (kC y) < 0 := hs.head
  unfold cutCs
  rw [List.filterMap_cons]
  rcases List.mem_cons.1 hc with rfl | hc
  ·have hn : getK kC (cutCs v h p l) (kC c) = none := getK_none (fun y hy hk => by
    obtain ⟨d, hd, hdy⟩ := List.mem_filterMap.1 hy
    have h1 := hx d hd
    rw [← cutC_key hdy, hk, cmpK_self] at h1
    omega)
   cases hcc : cutC v h p c with
   | none => exact hn
   | some y => exact getK_cons.trans (if_pos (cutC_key hcc))
  ·have ih := cut_get (v := v) (h := h) (p := p) hs.tail hc
   have hne : ¬ kC x = kC c := fun hh => by
    have h1 := hx c hc
    rw [hh, cmpK_self] at h1
    omega
   cases hcx : cutC v h p x with
   | none => exact ih
   | some y => exact (getK_cons.trans (if_neg (by rw [cutC_key hcx]; exact hne))).trans ih
theorem cut_out {cl : List I6} {v h p V S P F T H : Int} {i : Nat} (hs : SortK kC cl) (hc : cl[i]? = some (V, S, P, F, T, H)) (hb : bkdB V S P F v h 0 = false) :
  fndT (cutCs v h p cl) [V, S, P, F] = T ∧ fndS (cutCs v h p cl) [V, S, P, F] = H ∧ (getK kC (cutCs v h p cl) [V, S, P, F]).isSome = true ∧ (losCs v h p (cl.take (i + 1))).length = (losCs v h p (cl.take i)).length := by
 have g := cut_get (v := v) (h := h) (p := p) hs (List.mem_of_getElem? hc)
 have hb' : bkC (V, S, P, F, T, H) v h = false := hb
 rw [cutC_skip hb'] at g
 change getK kC (cutCs v h p cl) [V, S, P, F] = _ at g
 unfold fndT fndS
 rw [g]
 exact ⟨rfl, rfl, rfl, fm_none _ hc (losC_skip hb')⟩
theorem cut_in {cl : List I6} {v h p V S P F T H : Int} {i : Nat} (hs : SortK kC cl) (hg : ∀ c ∈ cl, GoodC c) (hw : ∀ c ∈ cl, WdC c) (p0 : 0 ≤ p) (p1 : p ≤ 1000000000) (hc : cl[i]? = some (V, S, P, F, T, H)) (hb : bkdB V S P F v h 0 = true) :
  ∃ T', 0 ≤ T' ∧ T' ≤ T ∧ T - T' = T * p / 1000000000 ∧ fndT (cutCs v h p cl) [V, S, P, F] = T' ∧ fndS (cutCs v h p cl) [V, S, P, F] = (if T' = 0 then 0 else H) ∧ (getK kC (cutCs v h p cl) [V, S, P, F]).isSome = decide (0 < T') ∧
   (losCs v h p cl)[(losCs v h p (cl.take i)).length]? = some (V, S, P, F, T - T') ∧ (losCs v h p (cl.take (i + 1))).length = (losCs v h p (cl.take i)).length + 1 := by
 have hm := List.mem_of_getElem? hc
 have g := cut_get (v := v) (h := h) (p := p) hs hm
 have hb' : bkC (V, S, P, F, T, H) v h = true := hb
 have hP : PoolOk T H := good_pool (hg _ hm) (hw _ hm)
 obtain ⟨_, n0, n1, t1, s1, ne, q⟩ := cut_ok hP p0 p1
 rw [cutC_hit hb'] at g
 change getK kC (cutCs v h p cl) [V, S, P, F] = optC V S P F (cutT T H p) (cutS T H p) at g
 have hl := losC_hit (p := p) hb'
 change losC v h p (V, S, P, F, T, H) = some (V, S, P, F, cutN T H p) at hl
 rw [t1, s1] at g
 refine ⟨T - cutN T H p, by omega, by omega, by omega, ?_, ?_, ?_, ?_, fm_some _ hc hl⟩
 ·unfold fndT
  rw [g]
  unfold optC
  by_cases hz : T - cutN T H p = 0
  ·rw [if_pos ⟨hz, if_pos hz⟩, hz]
   rfl
  rw [if_neg (fun hh => hz hh.1)]
  rfl
 ·unfold fndS
  rw [g]
  unfold optC
  by_cases hz : T - cutN T H p = 0
  ·rw [if_pos ⟨hz, if_pos hz⟩, if_pos hz]
   rfl
  rw [if_neg (fun hh => hz hh.1)]
  rfl
 ·rw [g]
  unfold optC
  by_cases hz : T - cutN T H p = 0
  ·rw [if_pos ⟨hz, if_pos hz⟩, hz]
   rfl
  rw [if_neg (fun hh => hz hh.1)]
  exact (decide_eq_true (by omega)).symm
 have h9 := fm_at (losC v h p) hc hl
 unfold losCs
 rw [h9]
 congr 5
 omega
theorem blame_ok {x T S P c : Int} (x0 : 0 < x) (xs : x ≤ S) (h : c = T * P / 1000000000) : x * c * 1000000000 ≤ x * T * P ∧ x * T * P < x * c * 1000000000 + S * 1000000000 := by
 have h1 := fl_le (n := T * P) (c := 1000000000) (by decide)
 have h2 := fl_lt (n := T * P) (c := 1000000000) (by decide)
 rw [← h] at h1 h2
 have m1 : x * (1000000000 * c) ≤ x * (T * P) := Int.mul_le_mul_of_nonneg_left h1 (by omega)
 have m2 : x * (T * P) < x * (1000000000 * c + 1000000000) := Int.mul_lt_mul_of_pos_left h2 x0
 rw [Int.mul_add] at m2
 have e1 : x * c * 1000000000 = x * (1000000000 * c) := by rw [Int.mul_assoc, Int.mul_comm c]
 have e2 : x * T * P = x * (T * P) := Int.mul_assoc ..
 rw [e1, e2]
 exact ⟨m1, by omega⟩
theorem cut_pos {cl ps : List I6} {v h p o V S P F n : Int} {i : Nat} (hk : HOk cl ps) (hw : ∀ c ∈ cl, WdC c) (hw2 : ∀ x ∈ ps, WdP x) (p0 : 0 ≤ p) (p1 : p ≤ 1000000000) (hp : ps[i]? = some (o, V, S, P, F, n)) :
  ∃ T H T' H' b, fndT cl [V, S, P, F] = T ∧ fndS cl [V, S, P, F] = H ∧ fndT (cutCs v h p cl) [V, S, P, F] = T' ∧ fndS (cutCs v h p cl) [V, S, P, F] = H' ∧ (getK kC (cutCs v h p cl) [V, S, P, F]).isSome = b ∧ Word T ∧ Word H ∧ Word T' ∧ Word H' ∧ T' ≤ T ∧ Word n ∧
   (b = true → (keepP (cutCs v h p cl) ps)[(keepP (cutCs v h p cl) (ps.take i)).length]? = some (o, V, S, P, F, n)) ∧ (keepP (cutCs v h p cl) (ps.take (i + 1))).length = (keepP (cutCs v h p cl) (ps.take i)).length + (if b = true then 1 else 0) ∧
   (bkdB V S P F v h 0 = true → n * (T - T') * 1000000000 ≤ n * T * p ∧ n * T * p < n * (T - T') * 1000000000 + H * 1000000000) := by
 have hm := List.mem_of_getElem? hp
 have hle := pos_le hk hw2 hm
 have h0 := pos_pos hk hw2 hm
 change n ≤ fndS cl [V, S, P, F] at hle
 change 0 < n at h0
 have hwn : Word n := hw2 _ hm
 have hP := hk.pool hw [V, S, P, F]
 obtain ⟨c, hc⟩ := Option.isSome_iff_exists.1 (hk.pos _ hm).2.2
 change getK kC cl [V, S, P, F] = some c at hc
 obtain ⟨hcm, hck⟩ := getK_mem hc
 obtain ⟨j, hj⟩ := List.getElem?_of_mem hcm
 obtain ⟨V', S', P', F', T, H⟩ := c
 change [V', S', P', F'] = [V, S, P, F] at hck
 simp only [List.cons.injEq, and_true] at hck
 obtain ⟨rfl, rfl, rfl, rfl⟩ := hck
 have eT : fndT cl [V', S', P', F'] = T := by unfold fndT; rw [hc]; rfl
 have eH : fndS cl [V', S', P', F'] = H := by unfold fndS; rw [hc]; rfl
 rw [eT, eH] at hP
 rw [eH] at hle
 have hf : (fun x => (getK kC (cutCs v h p cl) (stP x)).isSome) (o, V', S', P', F', n) = (getK kC (cutCs v h p cl) [V', S', P', F']).isSome := rfl
 have hst := fl_step (fun x => (getK kC (cutCs v h p cl) (stP x)).isSome) hp
 change _ = _ + (if (getK kC (cutCs v h p cl) [V', S', P', F']).isSome = true then 1 else 0) at hst
 rcases Bool.eq_false_or_eq_true (bkdB V' S' P' F' v h 0) with hb | hb
 ·obtain ⟨T', t0, t1, t2, f1, f2, f3, _⟩ := cut_in hk.sc hk.cls hw p0 p1 hj hb
  refine ⟨T, H, T', _, _, eT, eH, f1, f2, rfl, hP.wt, hP.ws, ⟨t0, by have := hP.wt.2; omega⟩, ?_, t1, hwn, fun hh => fl_at _ hp (hf.trans hh), hst, fun _ => blame_ok h0 hle t2⟩
  split
  ·exact ⟨by decide, by decide⟩
  exact hP.ws
 obtain ⟨f1, f2, f3, _⟩ := cut_out (p := p) hk.sc hj hb
 refine ⟨T, H, T, H, _, eT, eH, f1, f2, rfl, hP.wt, hP.ws, hP.wt, hP.ws, Int.le_refl _, hwn, fun hh => fl_at _ hp (hf.trans hh), hst, fun hh => ?_⟩
 rw [hb] at hh
 cases hh
end
section
open Go.RowKit Gr
theorem u64_info : (Tryz.prog.info? 32).map (fun i => (i.zero, i.size, i.bytes)) = some (some (.int .u64 0), 1, 8) := by kernel_rfl

structure IsGr (w : World) (A : Option Addr) (n c : Nat) (l : List Int) (N : Int) : Prop where
 sl : Sl w 1 A n c (iv .u64 l)
 dig : Dig l
 nor : Nor l
 eq : val l = N
def GrRet (N : Int) (w : World) (e : Ending) (w' : World) : Prop := ∃ A n c l, e = .returned (.slice A n c) ∧ IsGr w' A n c l N ∧ Ext w w'

theorem kGreat_any (n : Int) (hn : Word n) (w : World) :
  Calls Tryz.prog 52 #[.int .u64 n] w (GrRet n w) := by
 obtain ⟨i0, hi0, hz0, hz1, hz2⟩ := info_parts u64_info
 go_enter Tryz.func52, Tryz.ntmps52
 go_wp2
 go_loopg [0, 3] n.toNat (fun g x v wx => ∃ (x' : Int) (l : List Int), 0 ≤ x' ∧ x' < 18446744073709551616 ∧ Hid (g = x'.toNat ∧ GInv n l x') ∧ x = .int .u64 x' ∧ wx.ownsRow w.heap.size 32 1 v l.length (iv .u64 l) ∧ Ext w wx)
 case atStart => exact ⟨n, [], hn.1, hn.2, ⟨rfl, hn.2, Dig.nil, fun _ => nor_nil, by simp [val, pw]⟩, rfl, own_nil _ _ _ _, Ext.refl _⟩
 obtain ⟨x, l, x0, x1, H, rfl, hown, hx⟩ := hrel
 by_cases hz : 0 < x
 ·have hs := hx.size
  have hlen : l.length < 1099511627776 := by have := cap_step hz H.out.2.cp; omega
  have hlen2 := Lib.hid hlen
  clear hlen
  go_wp2_with (at_builtin; refine wpList_append_new wr rfl _ _ 85 rfl _ 32 i0 (.int .u64 0) 1 8 Tryz.underlying85 hi0 hz0 hz1 hz2 rfl (by decide) _ _ _ (by rfl) hown #[.int .u64 (x % 65536)] 1 (by rfl) rfl (by intro u hu; simp at hu; subst hu; rfl) hlen2.out (by decide) hs ?_; intro v1 w1 hown1 hb1)
  go_roundg (x / 65536).toNat
  case measure => have := H.out.1; omega
  exact ⟨x / 65536, l ++ [x % 65536], by omega, by omega, ⟨rfl, H.out.2.step hz⟩, rfl, by rw [← iv_snoc, List.length_append]; exact hown1, hx.below hb1⟩
 obtain ⟨h1, h2⟩ := H.out
 obtain rfl : x = 0 := by omega
 have h3 := h2.sum
 have h4 := h2.nor rfl
 have h5 := h2.dig
 obtain ⟨A, c, rfl, hsl⟩ := own_parts hown
 have h6 := Lib.hid (show GrRet n w (.returned (.slice A l.length c)) wr from ⟨A, _, c, l, rfl, ⟨hsl, h5, h4, by omega⟩, hx⟩)
 clear h1 h2 h3 h4 h5 H
 go_wp2
 go_ret
 exact h6.out

theorem kdigit_any (A : Option Addr) (n c : Nat) (l : List Int) (i : Nat) (w : World) (h : Sl w 1 A n c (iv .u64 l)) :
  Calls Tryz.prog 93 #[.slice A n c, .int .i64 i] w fun e w' => e = .returned (.int .u64 (l.getD i 0)) ∧ w = w' := by
 have hs := h.small
 have hl := h.ilen
 by_cases hi : i < n
 ·obtain ⟨b, o, rfl, hb, hc⟩ := h.cell hi
  have hc1 := hc i hi
  obtain ⟨x, hx⟩ : ∃ x, x = l.getD i 0 := ⟨_, rfl⟩
  rw [← hx] at hc1 ⊢
  clear hc hx h hl
  go_enter Tryz.func93, Tryz.ntmps93
  go_wp2
  go_ret
  exact ⟨rfl, rfl⟩
 have e : l.getD i 0 = 0 := by
  rw [List.getD_eq_getElem?_getD, List.getElem?_eq_none (by omega)]; rfl
 rw [e]
 clear e h hl
 go_enter Tryz.func93, Tryz.ntmps93
 go_wp2
 go_ret
 exact ⟨rfl, rfl⟩

def TrimRet (A : Option Addr) (c : Nat) (l : List Int) (w : World) (e : Ending) (w' : World) : Prop :=
 ∃ m, e = .returned (.slice A m c) ∧ m ≤ l.length ∧ Nor (l.take m) ∧ val (l.take m) = val l ∧ w = w'
theorem ktrim_any (A : Option Addr) (n c : Nat) (l : List Int) (w : World) (h : Sl w 1 A n c (iv .u64 l)) :
  Calls Tryz.prog 94 #[.slice A n c] w (TrimRet A c l w) := by
 have hs := h.small
 have hl := h.ilen
 have hnc := h.2.1
 have hcm : c ≤ 9223372036854775807 := by have := h.2.2.1; simpa [maxLen] using this
 go_enter Tryz.func94, Tryz.ntmps94
 go_wp2
 go_loopg [3] n (fun g m wx => g ≤ n ∧ Hid (val (l.take g) = val l) ∧ m = .int .i64 g ∧ wx = w)
 case atStart => exact ⟨Nat.le_refl _, by show val (l.take n) = val l; rw [List.take_of_length_le (by omega)], rfl, rfl⟩
 obtain ⟨hg, hv, rfl, rfl⟩ := hrel
 rcases gk with _ | m
 ·have H := Lib.hid (show TrimRet A c l wr (.returned (.slice A 0 c)) wr from ⟨0, rfl, by omega, by simpa using nor_nil, hv.out, rfl⟩)
  clear hv
  go_wp2
  go_ret
  exact H.out
 obtain ⟨b, o, rfl, hb, hc⟩ := h.cell (show m < n from by omega)
 have hc1 := hc m (by omega)
 obtain ⟨x, hx⟩ : ∃ x, x = l.getD m 0 := ⟨_, rfl⟩
 rw [← hx] at hc1
 by_cases hz : x = 0
 ·subst hz
  have hv2 := Lib.hid (show val (l.take m) = val l from (take_val (by omega) hx.symm).symm.trans hv.out)
  clear hv hc hx h hl
  go_wp2
  go_roundg m
  case measure => omega
  exact ⟨by omega, hv2, num_eq (by omega), rfl⟩
 have hz' : (x == 0) = false := by simpa using hz
 have H := Lib.hid (show TrimRet (some ⟨b, o, none⟩) c l wr (.returned (.slice (some ⟨b, o, none⟩) (m + 1) c)) wr from ⟨m + 1, rfl, by omega, nor_take (by omega) (by rw [← hx]; exact hz), hv.out, rfl⟩)
 clear hv hc hx h hz hl
 go_wp2
 go_ret
 exact H.out
theorem trim_gr {w : World} {A : Option Addr} {n c : Nat} {l : List Int} {N : Int} (h : Sl w 1 A n c (iv .u64 l)) (hd : Dig l) (hv : val l = N) :
  Calls Tryz.prog 94 #[.slice A n c] w (GrRet N w) := by
 refine (ktrim_any A n c l w h).mono fun e w' ⟨m, he, hm, hn, hv2, hw⟩ => ?_
 subst hw
 have hl := h.ilen
 exact ⟨A, m, c, l.take m, he, ⟨h.itake (by omega), hd.take m, hn, hv2.trans hv⟩, Ext.refl _⟩

theorem kLessGreat_any (A B : Option Addr) (n m c d : Nat) (a b : List Int) (N M : Int) (w : World) (ha : IsGr w A n c a N) (hb : IsGr w B m d b M) :
  Calls Tryz.prog 53 #[.slice A n c, .slice B m d] w fun e w' => e = .returned (.bool (decide (N < M))) ∧ Drw w w' := by
 obtain ⟨sa, da, na, ea⟩ := ha
 obtain ⟨sb, db, nb, eb⟩ := hb
 have hsa := sa.small
 have hsb := sb.small
 have hla := sa.ilen
 have hlb := sb.ilen
 obtain ⟨V, hV⟩ : ∃ V, V = decide (N < M) := ⟨_, rfl⟩
 rw [← hV]
 have HV := Lib.hid hV
 clear hV
 by_cases hl : n = m
 ·subst hl
  go_enter Tryz.func53, Tryz.ntmps53
  go_wp2
  go_loopg [5] n (fun g i wx => g ≤ n ∧ Hid (a.drop g = b.drop g) ∧ Hid (i = .int .i64 ((g : Int) - 1)) ∧ Drw w wx)
  case atStart => exact ⟨Nat.le_refl _, by show a.drop n = b.drop n; rw [List.drop_eq_nil_of_le (by omega), List.drop_eq_nil_of_le (by omega)], rfl, 0, rfl⟩
  obtain ⟨hg, hd, hi, hw⟩ := hrel
  rcases gk with _ | i
  ·have h5 : u5 = .int .i64 (-1) := hi.out.trans (num_eq (by simp))
   subst h5
   have e : V = false := by
    rw [HV.out]
    have h1 : a = b := by simpa using hd.out
    subst h1
    have : N = M := ea.symm.trans eb
    subst this
    simp
   subst e
   clear hi hd
   have HW := Lib.hid hw
   clear hw
   go_wp2
   go_ret
   exact ⟨rfl, HW.out⟩
  obtain rfl : u5 = .int .i64 (i : Int) := by rw [hi.out]; exact num_eq (by omega)
  clear hi
  obtain ⟨b1, o1, rfl, hb1, hc1⟩ := sa.cell (show i < n from by omega)
  obtain ⟨b2, o2, rfl, hb2, hc2⟩ := sb.cell (show i < n from by omega)
  obtain ⟨nq, rfl⟩ := hw
  have g1 := hc1 i (by omega)
  have g2 := hc2 i (by omega)
  obtain ⟨x, hx⟩ : ∃ x, x = a.getD i 0 := ⟨_, rfl⟩
  obtain ⟨y, hy⟩ : ∃ y, y = b.getD i 0 := ⟨_, rfl⟩
  rw [← hx] at g1
  rw [← hy] at g2
  have i0 : (i : Int) < n := by omega
  by_cases hxy : x = y
  ·have hd2 := Lib.hid (drop_eq (by omega) i (by omega) hd.out (by rw [← hx, ← hy, hxy]))
   subst hxy
   clear hc1 hc2 hx hy hd sa sb da db na nb ea eb hla hlb
   go_wp2
   go_quiet (fail)
   go_wp2
   go_roundg i
   case measure => omega
   exact ⟨by omega, hd2, rfl, _, rfl⟩
  have hne : (x == y) = false := by simpa using hxy
  have e : V = decide (x < y) := by
   rw [HV.out, Bool.eq_iff_iff, decide_eq_true_eq, decide_eq_true_eq, hx, hy, ← ea, ← eb]
   constructor
   ·intro h
    rcases Int.lt_or_gt_of_ne (by rw [← hx, ← hy]; exact hxy : a.getD i 0 ≠ b.getD i 0) with h1 | h1
    ·exact h1
    have := less_at db da (by omega) i (by omega) hd.out.symm h1
    omega
   exact less_at da db (by omega) i (by omega) hd.out
  have E := Lib.hid e
  clear hc1 hc2 hx hy hd sa sb da db na nb ea eb hla hlb e hxy
  go_wp2
  go_quiet (fail)
  go_wp2
  go_quiet (fail)
  go_wp2
  go_ret
  exact ⟨ret_bool E.out.symm, by repeat (first | exact Drw.refl _ | refine Drw.drewN ?_ _ | exact ⟨_, rfl⟩)⟩
 have hne : ((n : Int) == m) = false := by simp; omega
 have e : V = decide (n < m) := by
  rw [HV.out, Bool.eq_iff_iff, decide_eq_true_eq, decide_eq_true_eq, ← ea, ← eb]
  constructor
  ·intro h
   rcases Nat.lt_or_gt_of_ne hl with h1 | h1
   ·omega
   have := less_len db da na (by omega)
   omega
  intro h
  exact less_len da db nb (by omega)
 have E := Lib.hid e
 clear sa sb da db na nb ea eb hla hlb e hl
 go_enter Tryz.func53, Tryz.ntmps53
 go_wp2
 go_ret
 exact ⟨ret_bool E.out.symm, Drw.refl _⟩
theorem IsGr.ext {w w' : World} {A : Option Addr} {n c : Nat} {l : List Int} {N : Int} (h : IsGr w A n c l N) (hd : Ext w w') : IsGr w' A n c l N := ⟨h.sl.ext hd, h.dig, h.nor, h.eq⟩
def zer (n : Nat) : Array Value := madeCells (Value.int .u64 0).cells n
theorem iv_set (k : IntKind) (l : List Int) (j : Nat) (x : Int) : (iv k l).set j (.int k x) = iv k (l.set j x) := by simp [iv, List.map_set]
theorem zer_eq (n : Nat) : (zer n).toList = iv .u64 (List.replicate n 0) ∧ (zer n).size = n := by
 unfold zer
 refine ⟨?_, size_madeCells _ _⟩
 rw [show (Value.int .u64 0).cells = #[Value.int .u64 0] from rfl, toList_madeCells_one]
 simp [iv]
theorem own_zer (w : World) (n : Nat) (hn : n < 1099511627776) : (w.alloc (.cells (zer n) 32)).ownsRow w.heap.size 32 1 (.slice (some ⟨w.heap.size, 0, none⟩) n n) n (iv .u64 (List.replicate n 0)) := by
 rw [← (zer_eq n).1]
 exact World.ownsRow_lit w (zer n) n (Nat.le_refl _) (by simp [maxLen]; omega) (by rw [(zer_eq n).2, Nat.mul_one])
theorem own_store {w : World} {base g n c : Nat} {e : TypeId} {k : IntKind} {O : List Int} (h : w.ownsRow base e 1 (.slice (some ⟨g, 0, none⟩) n c) n (iv k O)) (j : Nat) (x : Int) :
  (w.setCell ⟨g, j, none⟩ (.int k x)).ownsRow base e 1 (.slice (some ⟨g, 0, none⟩) n c) n (iv k (O.set j x)) := by
 rw [← iv_set]
 exact (h.stored j (.int k x)).1
theorem own_cell {w : World} {base g n c : Nat} {e : TypeId} {k : IntKind} {O : List Int} (h : w.ownsRow base e 1 (.slice (some ⟨g, 0, none⟩) n c) n (iv k O)) {j : Nat} (hj : j < n) (hl : O.length = n) :
  w.cell? ⟨g, j, none⟩ = some (.int k (O.getD j 0)) := by
 rw [h.cellAt j (by omega)]
 exact iv_get k O j (by omega)
theorem own_base {w : World} {base g n c : Nat} {e : TypeId} {sz : Nat} {xs : List Value} (h : w.ownsRow base e sz (.slice (some ⟨g, 0, none⟩) n c) n xs) : base ≤ g ∧ g < w.heap.size := h.lt g rfl
theorem kdigit_q (A : Option Addr) (n c : Nat) (l : List Int) (i : Nat) (w : World) (k : Nat) (h : Sl w 1 A n c (iv .u64 l)) :
  Calls Tryz.prog 93 #[.slice A n c, .int .i64 i] (w.drewN k) fun e w'' => e = .returned (.int .u64 (l.getD i 0)) ∧ ∃ m, w'' = w.drewN m :=
 (kdigit_any A n c l i (w.drewN k) (h.ext ((Ext.refl w).drewN k))).mono fun e w' ⟨he, hw⟩ => ⟨he, k, hw.symm⟩
theorem make_u64 {i0 : TypeInfo} (hi0 : Tryz.prog.info? 32 = some i0) (hz0 : i0.zero = some (.int .u64 0)) (hz1 : i0.size = 1) (hz2 : i0.bytes = 8) (N : Int) (n : Nat) (hN : N = n) (hn : n < 1099511627776) (w : World) :
  (Instr.makeSlice 85 (.int .i64 N) (.int .i64 N)).run Tryz.prog w = .ok (.slice (some ⟨w.heap.size, 0, none⟩) n n) (w.alloc (.cells (zer n) 32)) := by
 subst hN
 have h := run_make (P := Tryz.prog) w 85 32 i0 _ Tryz.underlying85 hi0 hz0 .i64 .i64 n n (by omega) (Int.le_refl _) (by rw [hz2]; omega) (by omega)
 rw [Int.toNat_natCast, hz1, Nat.mul_one] at h
 exact h

theorem kTimesGreat_any (A B : Option Addr) (n m c d : Nat) (a b : List Int) (N M : Int) (w : World) (ha : IsGr w A n c a N) (hb : IsGr w B m d b M) (hn : n ≤ 100) (hm : m ≤ 100) :
  Calls Tryz.prog 51 #[.slice A n c, .slice B m d] w (GrRet (N * M) w) := by
 obtain ⟨sa, da, na, ea⟩ := ha
 obtain ⟨sb, db, nb, eb⟩ := hb
 have hla := sa.ilen
 have hlb := sb.ilen
 obtain ⟨i0, hi0, hz0, hz1, hz2⟩ := info_parts u64_info
 have hmk := fun W => make_u64 hi0 hz0 hz1 hz2 ((n : Int) + m + 1) (n + m + 1) (by omega) (by omega) W
 have hmk2 : ∀ W, (Instr.makeSlice 85 (.int .i64 ((n : Int) + m + 1)) (.int .i64 ((n : Int) + m + 1))).run Tryz.prog W = .ok (.slice (some ⟨W.heap.size, 0, none⟩) (n + m + 1) (n + m + 1)) (W.alloc (.cells (zer (n + m + 1)) 32)) := hmk
 clear hmk
 go_enter Tryz.func51, Tryz.ntmps51
 go_wp2
 have O0 := Lib.hid (own_zer w (n + m + 1) (by omega))
 have X0 := Lib.hid ((Ext.refl w).alloc (.cells (zer (n + m + 1)) 32))
 clear hmk2
 have HA := Lib.hid sa
 have HB := Lib.hid sb
 clear sa sb
 go_loopg [6] n (fun g i wx => g ≤ n ∧ ∃ O, Hid (Prd a b (n - g) O ∧ wx.ownsRow w.heap.size 32 1 (.slice (some ⟨w.heap.size, 0, none⟩) (n + m + 1) (n + m + 1)) (n + m + 1) (iv .u64 O)) ∧ Ext w wx ∧ i = .int .i64 ((n - g : Nat) : Int))
 case atStart => exact ⟨Nat.le_refl _, _, ⟨by rw [Nat.sub_self]; exact Prd.start a b, by rw [hla, hlb]; exact O0.out⟩, X0.out, by simp⟩
 obtain ⟨hg, O, H, hx, rfl⟩ := hrel
 obtain ⟨gk2, hgk2⟩ : ∃ g : Nat, g = gk := ⟨_, rfl⟩
 subst hgk2
 obtain ⟨i, hi⟩ : ∃ i, i = n - gk2 := ⟨_, rfl⟩
 rw [← hi] at H ⊢
 obtain ⟨wo, rfl⟩ : ∃ wo : World, wo = wr := ⟨_, rfl⟩
 by_cases hz : gk2 = 0
 ·have hin : i = n := by omega
  subst hin
  obtain ⟨P, own⟩ := H.out
  have T := Lib.hid (trim_gr (N := N * M) (Sl.own own) P.dig (by rw [← hla] at P; rw [P.done, ea, eb]))
  clear P own H hz hg hi
  go_wp2_with (go_at_call 94; refine T.out.mono ?_; rintro e w1 ⟨A', n', c', l', rfl, hgr, hx1⟩)
  go_ret
  exact ⟨A', n', c', l', rfl, hgr, hx.trans hx1⟩
 have hi1 : (i : Int) < n := by omega
 obtain ⟨P, own⟩ := H.out
 have hb0 := (own_base own).2
 have R0 := Lib.hid (And.intro P.row own)
 have P0 := Lib.hid P
 have hin : i < n := by omega
 have hgk := Lib.hid (And.intro hi (And.intro hg hz))
 clear P own H hz hg hi hin
 go_wp2
 go_loopg [7, 8] (m + 1) (fun g y i2 wx => g ≤ m + 1 ∧ ∃ (O2 : List Int) (cy : Int), Hid (Row a b O i O2 cy (m + 1 - g) ∧ wx.ownsRow w.heap.size 32 1 (.slice (some ⟨w.heap.size, 0, none⟩) (n + m + 1) (n + m + 1)) (n + m + 1) (iv .u64 O2)) ∧
  0 ≤ cy ∧ cy < 65536 ∧ Ext w wx ∧ y = .int .u64 cy ∧ i2 = .int .i64 ((m + 1 - g : Nat) : Int))
 case atStart => exact ⟨Nat.le_refl _, O, 0, ⟨by rw [Nat.sub_self]; exact R0.out.1, R0.out.2⟩, by decide, by decide, hx, rfl, by simp⟩
 obtain ⟨hg, O2, cy, R, c0, c1, hx2, rfl, rfl⟩ := hrel
 obtain ⟨k, hk⟩ : ∃ k, k = m + 1 - gk := ⟨_, rfl⟩
 rw [← hk] at R ⊢
 by_cases hz : gk = 0
 ·obtain ⟨Rr, own2⟩ := R.out
  have hkm : k = m + 1 := by omega
  have P2 := Lib.hid (P0.out.next da db (by have := hgk.out; omega) (by rw [hlb, ← hkm]; exact Rr))
  have W2 := Lib.hid own2
  have hkm2 : ¬ (k : Int) ≤ m := by omega
  clear Rr own2 R hz hg hk hkm
  go_wp2
  go_roundg (gk2 - 1)
  case measure => have := hgk.out; omega
  exact ⟨by have := hgk.out; omega, O2, ⟨by rw [show n - (gk2 - 1) = i + 1 from by have := hgk.out; omega]; exact P2.out, W2.out⟩, hx2, num_eq (by have := hgk.out; omega)⟩
 obtain ⟨Rr, own2⟩ := R.out
 have hkm : k ≤ m := by omega
 obtain ⟨t0, t1, R2⟩ := Rr.step da db (by have := hgk.out; omega) (by omega)
 have hcell := own_cell own2 (show i + k < n + m + 1 from by omega) (by rw [Rr.len, hla, hlb])
 have hfr := own2.frozenAt (i + k)
 obtain ⟨b1, o1, rfl, hb1, hc1⟩ := HA.out.cell (show i < n from by have := hgk.out; omega)
 have hcell2 : wr.cell? ⟨b1, o1 + i, none⟩ = some (.int .u64 (a.getD i 0)) := (hx2.cells.1 _ _ hb1).trans (hc1 i (by have := hgk.out; omega))
 have HD := Lib.hid (fun j => kdigit_q B m d b k wr j (HB.out.ext hx2))
 obtain ⟨x1, x2⟩ := Rr.dig.getD (i + k)
 obtain ⟨y1, y2⟩ := da.getD i
 obtain ⟨z1, z2⟩ := db.getD k
 obtain ⟨x, hx⟩ : ∃ x, x = O2.getD (i + k) 0 := ⟨_, rfl⟩
 obtain ⟨y, hy⟩ : ∃ x, x = a.getD i 0 := ⟨_, rfl⟩
 obtain ⟨z, hz⟩ : ∃ x, x = b.getD k 0 := ⟨_, rfl⟩
 rw [← hx] at hcell x1 x2 t0 t1 R2
 rw [← hy] at hcell2 y1 y2 t0 t1 R2
 rw [← hz] at HD z1 z2 t0 t1 R2
 have p1 : 0 ≤ y * z := Int.mul_nonneg y1 z1
 have p2 : y * z < 4294967296 := by omega
 have N2 := Lib.hid (And.intro R2 (own_store own2 (i + k) ((cy + x + y * z) % 65536)))
 have HK := Lib.hid (And.intro hk (And.intro hg hkm))
 have i1 : (i : Int) + (k : Int) < (n : Int) + (m : Int) + 1 := by omega
 have k1 : (k : Int) ≤ m := by omega
 clear Rr own2 R hg hk hx hy hz R2 hc1 hb1 hkm
 go_wp2
 have w1 : IntKind.i64.wrap ((i : Int) + (k : Int)) = (i : Int) + (k : Int) := IntWalk.i64_in _ (by omega)
 have w2 : ((i : Int) + (k : Int)).toNat = i + k := by omega
 have w3 : (0 : Int) ≤ (i : Int) + (k : Int) := by omega
 go_quiet ((go_at_call 93; exact HD.out _))
 clear w1 w2 w3
 go_wp2
 go_roundg (gk - 1)
 case measure => have := HK.out; omega
 obtain ⟨R2, own3⟩ := N2.out
 have hkk : m + 1 - (gk - 1) = k + 1 := by have := HK.out; omega
 exact ⟨by have := HK.out; omega, _, _, ⟨by rw [hkk]; exact R2, own3⟩, by omega, by omega, (hx2.drewN _).setCell (Nat.le_refl _) _, rfl, num_eq (by rw [hkk]; omega)⟩
end
section

namespace Gr
structure SG (a b O : List Int) (cy : Int) (i : Nat) : Prop where
 dig : Dig O
 len : O.length = i
 c0 : 0 ≤ cy
 c1 : cy ≤ 1
 sum : val O + pw i * cy = val (a.take i) + val (b.take i)
theorem SG.start (a b : List Int) : SG a b [] 0 0 := ⟨Dig.nil, rfl, by decide, by decide, by simp [val]⟩
theorem SG.step {a b O : List Int} {cy : Int} {i : Nat} (h : SG a b O cy i) (da : Dig a) (db : Dig b) :
  let t := cy + a.getD i 0 + b.getD i 0
  0 ≤ t ∧ t < 131072 ∧ SG a b (O ++ [t % 65536]) (t / 65536) (i + 1) := by
 intro t
 obtain ⟨a1, a2⟩ := da.getD i
 obtain ⟨b1, b2⟩ := db.getD i
 have c0 := h.c0
 have c1 := h.c1
 have t0 : 0 ≤ t := by show 0 ≤ cy + a.getD i 0 + b.getD i 0; omega
 have t1 : t < 131072 := by show cy + a.getD i 0 + b.getD i 0 < 131072; omega
 refine ⟨t0, t1, h.dig.append (Dig.nil.cons (by omega) (by omega)), by rw [List.length_append, h.len]; rfl, by omega, by omega, ?_⟩
 rw [val_append, h.len, val_take_succ, val_take_succ]
 have e := h.sum
 show val O + pw i * (t % 65536 + 65536 * 0) + 65536 * pw i * (t / 65536) = _
 have e2 : pw i * (t % 65536 + 65536 * 0) + 65536 * pw i * (t / 65536) = pw i * t := by
  rw [show t % 65536 + 65536 * 0 = t % 65536 from by omega, Int.mul_comm 65536 (pw i), Int.mul_assoc, ← Int.mul_add]
  congr 1; omega
 have e3 : pw i * t = pw i * cy + (pw i * a.getD i 0 + pw i * b.getD i 0) := by
  show pw i * (cy + a.getD i 0 + b.getD i 0) = _
  rw [Int.mul_add, Int.mul_add]; omega
 omega
theorem SG.done {a b O : List Int} {i : Nat} (h : SG a b O 0 i) (ha : a.length ≤ i) (hb : b.length ≤ i) : val O = val a + val b := by
 have e := h.sum
 rw [List.take_of_length_le ha, List.take_of_length_le hb] at e
 omega
end Gr
open Go.RowKit Gr

theorem kSumGreat_any (A B : Option Addr) (n m c d : Nat) (a b : List Int) (N M : Int) (w : World) (ha : IsGr w A n c a N) (hb : IsGr w B m d b M) (hn : n ≤ 100) (hm : m ≤ 100) :
  Calls Tryz.prog 54 #[.slice A n c, .slice B m d] w (GrRet (N + M) w) := by
 obtain ⟨sa, da, na, ea⟩ := ha
 obtain ⟨sb, db, nb, eb⟩ := hb
 have hla := Lib.hid sa.ilen
 have hlb := Lib.hid sb.ilen
 have HA := Lib.hid sa
 have HB := Lib.hid sb
 have HD := Lib.hid (And.intro da db)
 have HE := Lib.hid (And.intro ea eb)
 clear sa sb da na ea db nb eb
 obtain ⟨mx, hmx⟩ : ∃ mx : Nat, (if (n : Int) < m then (m : Int) else n) = mx ∧ n ≤ mx ∧ m ≤ mx := by
  by_cases h : (n : Int) < m
  ·exact ⟨m, by rw [if_pos h], by omega, Nat.le_refl _⟩
  exact ⟨n, by rw [if_neg h], Nat.le_refl _, by omega⟩
 obtain ⟨hmx, hmx1, hmx2⟩ := hmx
 have hmax : ∀ (ts : Array TypeId) (t : TypeId) (w : World), (Builtin.max_ ts t #[.int .i64 n, .int .i64 m]).run Tryz.prog w = .ok (.int .i64 mx) w := by
  intro ts t w
  rw [run_max_int2, hmx]
 have hmx3 : mx ≤ 100 := by
  by_cases h : (n : Int) < m
  ·rw [if_pos h] at hmx; omega
  rw [if_neg h] at hmx; omega
 clear hmx
 obtain ⟨i0, hi0, hz0, hz1, hz2⟩ := info_parts u64_info
 go_enter Tryz.func54, Tryz.ntmps54
 go_wp2
 go_loopg [5, 6, 7] (mx + 1) (fun g v y i wx => g ≤ mx + 1 ∧ ∃ (O : List Int) (cy : Int), Hid (SG a b O cy (mx + 1 - g) ∧ wx.ownsRow w.heap.size 32 1 v (mx + 1 - g) (iv .u64 O)) ∧ Hid (g = 0 → cy = 0) ∧ 0 ≤ cy ∧ cy ≤ 1 ∧ y = .int .u64 cy ∧ i = .int .i64 ((mx + 1 - g : Nat) : Int) ∧ Ext w wx)
 case atStart => exact ⟨Nat.le_refl _, [], 0, ⟨by rw [Nat.sub_self]; exact SG.start a b, by rw [Nat.sub_self]; exact own_nil _ _ _ _⟩, fun _ => rfl, by decide, by decide, rfl, by simp, Ext.refl _⟩
 obtain ⟨hg, O, cy, H, H0, c0, c1, rfl, hi, hx⟩ := hrel
 obtain ⟨k, hk⟩ : ∃ k, k = mx + 1 - gk := ⟨_, rfl⟩
 rw [← hk] at H hi
 subst hi
 have XW := Lib.hid hx
 have hs := hx.size
 clear hx
 obtain ⟨G, own⟩ := H.out
 have HG := Lib.hid G
 have HO := Lib.hid own
 clear H G own
 by_cases hz : ¬ (k : Int) < mx ∧ cy = 0
 ·obtain ⟨hkn, rfl⟩ := hz
  obtain ⟨A', c', rfl, so⟩ := own_parts HO.out
  have T := Lib.hid (trim_gr (N := N + M) so HG.out.dig (by rw [HG.out.done (by have := hla.out; omega) (by have := hlb.out; omega), HE.out.1, HE.out.2]))
  clear so hk hg
  go_wp2_with (go_at_call 94; refine T.out.mono ?_; rintro e w1 ⟨A2, n2, c2, l2, rfl, hgr, hx1⟩)
  go_ret
  exact ⟨A2, n2, c2, l2, rfl, hgr, XW.out.trans hx1⟩
 obtain ⟨t0, t1, G2⟩ := HG.out.step HD.out.1 HD.out.2
 have C1 := Lib.hid (kdigit_any A n c a k wr (HA.out.ext XW.out))
 have C2 := Lib.hid (kdigit_any B m d b k wr (HB.out.ext XW.out))
 obtain ⟨y1, y2⟩ := HD.out.1.getD k
 obtain ⟨z1, z2⟩ := HD.out.2.getD k
 obtain ⟨y, hy⟩ : ∃ x, x = a.getD k 0 := ⟨_, rfl⟩
 obtain ⟨z, hzz⟩ : ∃ x, x = b.getD k 0 := ⟨_, rfl⟩
 have hlast : gk = 1 → (cy + y + z) / 65536 = 0 := by
  intro h1
  have e1 : y = 0 := by rw [hy, List.getD_eq_getElem?_getD, List.getElem?_eq_none (by have := hla.out; omega)]; rfl
  have e2 : z = 0 := by rw [hzz, List.getD_eq_getElem?_getD, List.getElem?_eq_none (by have := hlb.out; omega)]; rfl
  omega
 have HLAST := Lib.hid hlast
 rw [← hy] at y1 y2 t0 t1 G2 C1
 rw [← hzz] at z1 z2 t0 t1 G2 C2
 have GG := Lib.hid G2
 have hgk : gk ≠ 0 := by
  intro h
  have := H0.out h
  exact hz ⟨by omega, this⟩
 have HK := Lib.hid (And.intro hk (And.intro hg hgk))
 have hk1 : k ≤ 1000 := by omega
 have hkk : (k : Int) < mx ∨ ¬ (k : Int) < mx ∧ 0 < cy := by
  by_cases h : (k : Int) < mx
  ·exact .inl h
  exact .inr ⟨h, by have : ¬ cy = 0 := fun e => hz ⟨h, e⟩; omega⟩
 have hkb := Lib.hid (show k < 1099511627776 by omega)
 clear hlast hy hzz G2 hz hk hg hgk
 rcases hkk with hkk | ⟨hkk, hcy⟩
 all_goals
  go_wp2_with fail
  refine C1.out.mono ?_
  rintro e w1 ⟨rfl, rfl⟩
  go_wp2_with fail
  refine C2.out.mono ?_
  rintro e w1 ⟨rfl, rfl⟩
  go_wp2_with (at_builtin; refine wpList_append_new wr rfl _ _ 85 rfl _ 32 i0 (.int .u64 0) 1 8 Tryz.underlying85 hi0 hz0 hz1 hz2 rfl (by decide) _ _ _ (by rfl) HO.out #[.int .u64 ((cy + y + z) % 65536)] 1 (by rfl) rfl (by intro u hu; simp at hu; subst hu; rfl) hkb.out (by decide) hs ?_; intro v1 w1 hown1 hb1)
  go_roundg (gk - 1)
  case measure => have := HK.out; omega
  case rel =>
   have e5 : mx + 1 - (gk - 1) = k + 1 := by have := HK.out; omega
   exact ⟨by have := HK.out; omega, O ++ [(cy + y + z) % 65536], (cy + y + z) / 65536, ⟨by rw [e5]; exact GG.out, by rw [e5, ← iv_snoc]; exact hown1⟩, fun h => HLAST.out (by have := HK.out; omega), by omega, by omega, rfl, num_eq (by rw [e5]; omega), XW.out.below hb1⟩
end
section
open Go.RowKit Gr
theorem gr_short {w : World} {A : Option Addr} {n c : Nat} {l : List Int} {N : Int} (h : IsGr w A n c l N) {k : Nat} (hN : N < pw k) : n ≤ k := by
 have := len_of h.dig h.nor (by rw [h.eq]; exact hN)
 rw [h.sl.ilen] at this
 exact this
def GV (w : World) (v : Value) (N : Int) : Prop := ∃ A n c l, v = .slice A n c ∧ IsGr w A n c l N
theorem GV.ext {w w' : World} {v : Value} {N : Int} (h : GV w v N) (hx : Ext w w') : GV w' v N := by
 obtain ⟨A, n, c, l, h1, h2⟩ := h
 exact ⟨A, n, c, l, h1, h2.ext hx⟩
theorem pw16 : pw 16 = 115792089237316195423570985008687907853269984665640564039457584007913129639936 := by decide
def B1 (N : Int) : Prop := 0 ≤ N ∧ N < 18446744073709551616
def B2 (N : Int) : Prop := 0 ≤ N ∧ N < 340282366920938463463374607431768211456
def B3 (N : Int) : Prop := 0 ≤ N ∧ N < 6277101735386680763835789423207666416102355444464034512896
theorem mul_lt {a b A B : Int} (h1 : 0 ≤ a) (h2 : a < A) (h3 : 0 ≤ b) (h4 : b < B) : 0 ≤ a * b ∧ a * b < A * B := by
 refine ⟨Int.mul_nonneg h1 h3, ?_⟩
 have m1 : a * b ≤ a * B := Int.mul_le_mul_of_nonneg_left (by omega) h1
 have m2 : a * B < A * B := Int.mul_lt_mul_of_pos_right h2 (by omega)
 omega
theorem B1.mul {a b : Int} (h : B1 a) (k : B1 b) : B2 (a * b) := mul_lt h.1 h.2 k.1 k.2
theorem B2.mul {a b : Int} (h : B2 a) (k : B1 b) : B3 (a * b) := mul_lt h.1 h.2 k.1 k.2
theorem B1.small {N : Int} (h : B1 N) : N < pw 16 := by rw [pw16]; have := h.2; omega
theorem B2.small {N : Int} (h : B2 N) : N < pw 16 := by rw [pw16]; have := h.2; omega
theorem B3.small {N : Int} (h : B3 N) : N < pw 16 := by rw [pw16]; have := h.2; omega
theorem gGreat (n : Int) (hn : B1 n) (w : World) : Calls Tryz.prog 52 #[.int .u64 n] w fun e w' => ∃ v, e = .returned v ∧ GV w' v n ∧ Ext w w' := by
 refine (kGreat_any n hn w).mono ?_
 rintro e w' ⟨A, m, c, l, rfl, g, hx⟩
 exact ⟨_, rfl, ⟨A, m, c, l, rfl, g⟩, hx⟩
theorem gTimes (v u : Value) (N M : Int) (hN : N < pw 16) (hM : M < pw 16) (w : World) (h1 : GV w v N) (h2 : GV w u M) :
  Calls Tryz.prog 51 #[v, u] w fun e w' => ∃ x, e = .returned x ∧ GV w' x (N * M) ∧ Ext w w' := by
 obtain ⟨A, n, c, l, rfl, g⟩ := h1
 obtain ⟨B, m, d, k, rfl, f⟩ := h2
 refine (kTimesGreat_any A B n m c d l k N M w g f (by have := gr_short g hN; omega) (by have := gr_short f hM; omega)).mono ?_
 rintro e w' ⟨A, m, c, l, rfl, g, hx⟩
 exact ⟨_, rfl, ⟨A, m, c, l, rfl, g⟩, hx⟩
theorem gSum (v u : Value) (N M : Int) (hN : N < pw 16) (hM : M < pw 16) (w : World) (h1 : GV w v N) (h2 : GV w u M) :
  Calls Tryz.prog 54 #[v, u] w fun e w' => ∃ x, e = .returned x ∧ GV w' x (N + M) ∧ Ext w w' := by
 obtain ⟨A, n, c, l, rfl, g⟩ := h1
 obtain ⟨B, m, d, k, rfl, f⟩ := h2
 refine (kSumGreat_any A B n m c d l k N M w g f (by have := gr_short g hN; omega) (by have := gr_short f hM; omega)).mono ?_
 rintro e w' ⟨A, m, c, l, rfl, g, hx⟩
 exact ⟨_, rfl, ⟨A, m, c, l, rfl, g⟩, hx⟩
theorem gLess (v u : Value) (N M : Int) (V : Bool) (hV : decide (N < M) = V) (w : World) (h1 : GV w v N) (h2 : GV w u M) :
  Calls Tryz.prog 53 #[v, u] w fun e w' => e = .returned (.bool V) ∧ Ext w w' := by
 obtain ⟨A, n, c, l, rfl, g⟩ := h1
 obtain ⟨B, m, d, k, rfl, f⟩ := h2
 subst hV
 exact (kLessGreat_any A B n m c d l k N M w g f).mono fun e w' h => ⟨h.1, h.2.ext⟩
end
section
open Go.RowKit Go.ChangeShapes Go.WideShapes Go.Deep Go.Joins
theorem billion_b : B1 1000000000 := ⟨by decide, by decide⟩
theorem worth13_any (x pT pS pp : Int) (hx : B1 x) (hT : B1 pT) (hp : B1 pp) (w : World) :
  Calls Tryz.prog 92 #[.int .u64 x, .agg #[.int .u64 pT, .int .u64 pS], .int .u64 pp] w fun r w' => ∃ v, r = .returned v ∧ GV w' v (x * pT * pp) ∧ Ext w w' := by
 have HX := Lib.hid hx
 have HT := Lib.hid hT
 have HP := Lib.hid hp
 clear hx hT hp
 go_enter Tryz.func92, Tryz.ntmps92
 go_wp2_with fail
 refine wp_region_held_drew (S := fun w' => w'.cell? ⟨w.heap.size, 0, none⟩ = some (.int .u64 pT)) (by kernel_rfl) zcv (fun hHeld => ?_)
 refine' zt 0 ?_
 refine' zt 2 ?_
 refine' zt 3 ?_
 refine' zt 6 ?_
 refine' zn 1 (fun K hK => ?_)
 go_simp
 (with_reducible refine (gGreat (x) HX.out _).mono ?_)
 rintro e w1 ⟨v1, rfl, gv1, hx1⟩
 have c0_0 : w1.cell? ⟨w.heap.size, 0, none⟩ = some (.int .u64 pT) := hx1.has zcv
 have z1 := hx1.size
 try simp at z1
 have rc0 := zr w.heap.size w1
 have X1 : Hid (Ext w w1) := Lib.hid (Ext.trans zxt hx1)
 have G1 := Lib.hid gv1
 clear hx1 z1 gv1
 refine' zk hK zSlTbl1_1 (fun hHeld => ?_); clear hK K
 refine' zn 4 (fun K hK => ?_)
 go_simp
 (with_reducible refine (gGreat (pT) HT.out _).mono ?_)
 rintro e w2 ⟨v2, rfl, gv2, hx2⟩
 replace c0_0 := zh hx2 c0_0
 have z2 := hx2.size
 try simp at z2
 replace rc0 := zr w.heap.size w2
 replace G1 := Lib.hid (G1.out.ext (Ext.trans zxt hx2))
 have X2 : Hid (Ext w w2) := Lib.hid (Ext.trans zxt hx2)
 have G2 := Lib.hid gv2
 clear X1 hx2 z2 gv2
 refine' zk hK zSlTbl1_1 (fun hHeld => ?_); clear hK K
 refine' zn 5 (fun K hK => ?_)
 go_simp
 (with_reducible refine (gTimes v1 v2 (x) (pT) (B1.small HX.out) (B1.small HT.out) _ (G1.out.ext zxt) (G2.out.ext zxt)).mono ?_)
 rintro e w3 ⟨v3, rfl, gv3, hx3⟩
 replace c0_0 := zh hx3 c0_0
 have z3 := hx3.size
 try simp at z3
 replace rc0 := zr w.heap.size w3
 have X3 : Hid (Ext w w3) := Lib.hid (Ext.trans zxt hx3)
 have G3 := Lib.hid gv3
 clear G1 G2 X2 hx3 z3 gv3
 refine' zk hK zSlTbl1_1 (fun hHeld => ?_); clear hK K
 refine' zn 7 (fun K hK => ?_)
 go_simp
 (with_reducible refine (gGreat (pp) HP.out _).mono ?_)
 rintro e w4 ⟨v4, rfl, gv4, hx4⟩
 replace c0_0 := zh hx4 c0_0
 have z4 := hx4.size
 try simp at z4
 replace rc0 := zr w.heap.size w4
 replace G3 := Lib.hid (G3.out.ext (Ext.trans zxt hx4))
 have X4 : Hid (Ext w w4) := Lib.hid (Ext.trans zxt hx4)
 have G4 := Lib.hid gv4
 clear X3 hx4 z4 gv4
 refine' zk hK zSlTbl1_1 (fun hHeld => ?_); clear hK K
 refine' zn 8 (fun K hK => ?_)
 go_simp
 (with_reducible refine (gTimes v3 v4 (x * pT) (pp) (B2.small (B1.mul HX.out HT.out)) (B1.small HP.out) _ (G3.out.ext zxt) (G4.out.ext zxt)).mono ?_)
 rintro e w5 ⟨v5, rfl, gv5, hx5⟩
 replace c0_0 := zh hx5 c0_0
 have z5 := hx5.size
 try simp at z5
 replace rc0 := zr w.heap.size w5
 have X5 : Hid (Ext w w5) := Lib.hid (Ext.trans zxt hx5)
 have G5 := Lib.hid gv5
 clear G3 G4 X4 hx5 z5 gv5
 refine' zk hK zSlTbl1_1 (fun hHeld => ?_); clear hK K
 refine' zt 9 ?_
 refine wpAnyH_done (by kernel_rfl) ?_ _
 go_wp2_with fail
 go_ret
 exact ⟨_, rfl, (G5.out.ext zxt), zxt⟩
theorem blamed13_any (x pT pS qT qS pp D : Int) (hx : B1 x) (hT : B1 pT) (hS : B1 pS) (hD : B1 D) (hp : B1 pp) (hwd : IntKind.u64.wrap (pT - qT) = D) (hlt : ¬ pT < qT) (h1 : x * D * 1000000000 ≤ x * pT * pp) (h2 : x * pT * pp < x * D * 1000000000 + pS * 1000000000) (w : World) :
  Calls Tryz.prog 50 #[.int .u64 x, .agg #[.int .u64 pT, .int .u64 pS], .agg #[.int .u64 qT, .int .u64 qS], .int .u64 pp] w fun r w' => r = .returned (.bool true) ∧ Ext w w' := by
 have HX := Lib.hid hx
 have HT := Lib.hid hT
 have HS := Lib.hid hS
 have HD := Lib.hid hD
 have HP := Lib.hid hp
 have HL1 := Lib.hid (show decide (x * pT * pp < x * D * 1000000000) = false from decide_eq_false (by omega))
 have HL2 := Lib.hid (show decide (x * pT * pp < x * D * 1000000000 + pS * 1000000000) = true from decide_eq_true h2)
 clear hx hT hS hD hp h1 h2
 go_enter Tryz.func50, Tryz.ntmps50
 go_wp2_with fail
 refine wp_region_held_drew (S := fun w' => w'.cell? ⟨w.heap.size, 0, none⟩ = some (.int .u64 pT) ∧ w'.cell? ⟨w.heap.size + 1, 0, none⟩ = some (.int .u64 qT)) (by kernel_rfl) (by first | with_reducible exact ⟨c0_0, c1_0⟩ | (simp [go_sem, World.cell?_alloc_past]; done)) (fun hHeld => ?_)
 refine' zt 0 ?_
 refine' zt 2 ?_
 refine' zt 3 ?_
 refine' zt 4 ?_
 refine' zt 5 ?_
 refine' zt 6 ?_
 refine' zn 1 (fun K hK => ?_)
 go_simp
 (with_reducible refine (gGreat (x) HX.out _).mono ?_)
 rintro e w1 ⟨v1, rfl, gv1, hx1⟩
 have c0_0 : w1.cell? ⟨w.heap.size, 0, none⟩ = some (.int .u64 pT) := hx1.has zcv
 have c0_1 : w1.cell? ⟨w.heap.size, 1, none⟩ = some (.int .u64 pS) := hx1.has zcv
 have c1_0 : w1.cell? ⟨w.heap.size + 1, 0, none⟩ = some (.int .u64 qT) := hx1.has zcv
 have z1 := hx1.size
 try simp at z1
 have lt_c0_c1 := zl w.heap.size (w.heap.size + 1)
 have rc0 := zr w.heap.size w1
 have rc1 := zr (w.heap.size + 1) w1
 have X1 : Hid (Ext w w1) := Lib.hid (Ext.trans zxt hx1)
 have G1 := Lib.hid gv1
 clear hx1 z1 gv1
 refine' zk hK zSlTbl1_0 (fun hHeld => ?_); clear hK K
 refine' zn 7 (fun K hK => ?_)
 go_simp
 (with_reducible refine (gGreat (D) HD.out _).mono ?_)
 rintro e w2 ⟨v2, rfl, gv2, hx2⟩
 replace c0_0 := zh hx2 c0_0
 replace c0_1 := zh hx2 c0_1
 replace c1_0 := zh hx2 c1_0
 have z2 := hx2.size
 try simp at z2
 replace rc0 := zr w.heap.size w2
 replace rc1 := zr (w.heap.size + 1) w2
 replace G1 := Lib.hid (G1.out.ext (Ext.trans zxt hx2))
 have X2 : Hid (Ext w w2) := Lib.hid (Ext.trans zxt hx2)
 have G2 := Lib.hid gv2
 clear X1 hx2 z2 gv2
 refine' zk hK zSlTbl1_0 (fun hHeld => ?_); clear hK K
 refine' zn 8 (fun K hK => ?_)
 go_simp
 (with_reducible refine (gTimes v1 v2 (x) (D) (B1.small HX.out) (B1.small HD.out) _ (G1.out.ext zxt) (G2.out.ext zxt)).mono ?_)
 rintro e w3 ⟨v3, rfl, gv3, hx3⟩
 replace c0_0 := zh hx3 c0_0
 replace c0_1 := zh hx3 c0_1
 replace c1_0 := zh hx3 c1_0
 have z3 := hx3.size
 try simp at z3
 replace rc0 := zr w.heap.size w3
 replace rc1 := zr (w.heap.size + 1) w3
 have X3 : Hid (Ext w w3) := Lib.hid (Ext.trans zxt hx3)
 have G3 := Lib.hid gv3
 clear G1 G2 X2 hx3 z3 gv3
 refine' zk hK zSlTbl1_0 (fun hHeld => ?_); clear hK K
 refine' zn 9 (fun K hK => ?_)
 go_simp
 (with_reducible refine (gGreat (1000000000) billion_b _).mono ?_)
 rintro e w4 ⟨v4, rfl, gv4, hx4⟩
 replace c0_0 := zh hx4 c0_0
 replace c0_1 := zh hx4 c0_1
 replace c1_0 := zh hx4 c1_0
 have z4 := hx4.size
 try simp at z4
 replace rc0 := zr w.heap.size w4
 replace rc1 := zr (w.heap.size + 1) w4
 replace G3 := Lib.hid (G3.out.ext (Ext.trans zxt hx4))
 have X4 : Hid (Ext w w4) := Lib.hid (Ext.trans zxt hx4)
 have G4 := Lib.hid gv4
 clear X3 hx4 z4 gv4
 refine' zk hK zSlTbl1_0 (fun hHeld => ?_); clear hK K
 refine' zn 10 (fun K hK => ?_)
 go_simp
 (with_reducible refine (gTimes v3 v4 (x * D) (1000000000) (B2.small (B1.mul HX.out HD.out)) (B1.small billion_b) _ (G3.out.ext zxt) (G4.out.ext zxt)).mono ?_)
 rintro e w5 ⟨v5, rfl, gv5, hx5⟩
 replace c0_0 := zh hx5 c0_0
 replace c0_1 := zh hx5 c0_1
 replace c1_0 := zh hx5 c1_0
 have z5 := hx5.size
 try simp at z5
 replace rc0 := zr w.heap.size w5
 replace rc1 := zr (w.heap.size + 1) w5
 have X5 : Hid (Ext w w5) := Lib.hid (Ext.trans zxt hx5)
 have G5 := Lib.hid gv5
 clear G3 G4 X4 hx5 z5 gv5
 refine' zk hK zSlTbl1_0 (fun hHeld => ?_); clear hK K
 refine' zt 11 ?_
 refine wpAnyH_done (by kernel_rfl) ?_ _
 go_wp2_with fail
 (with_reducible refine (worth13_any x pT pS pp HX.out HT.out HP.out _).mono ?_)
 rintro e w6 ⟨v6, rfl, gv6, hx6⟩
 replace c0_0 := zh hx6 c0_0
 replace c0_1 := zh hx6 c0_1
 replace c1_0 := zh hx6 c1_0
 have z6 := hx6.size
 try simp at z6
 replace rc0 := zr w.heap.size w6
 replace rc1 := zr (w.heap.size + 1) w6
 replace G5 := Lib.hid (G5.out.ext (Ext.trans zxt hx6))
 have X6 : Hid (Ext w w6) := Lib.hid (Ext.trans zxt hx6)
 have G6 := Lib.hid gv6
 clear X5 hx6 z6 gv6
 go_wp2_with fail
 (with_reducible refine (gGreat (pS) HS.out _).mono ?_)
 rintro e w7 ⟨v7, rfl, gv7, hx7⟩
 have z7 := hx7.size
 try simp at z7
 replace G5 := Lib.hid (G5.out.ext (Ext.trans zxt hx7))
 replace G6 := Lib.hid (G6.out.ext (Ext.trans zxt hx7))
 have X7 : Hid (Ext w w7) := Lib.hid (Ext.trans zxt hx7)
 have G7 := Lib.hid gv7
 clear c0_0 c0_1 c1_0 rc1 rc0 X6 hx7 z7 gv7
 go_wp2_with fail
 (with_reducible refine (gGreat (1000000000) billion_b _).mono ?_)
 rintro e w8 ⟨v8, rfl, gv8, hx8⟩
 have z8 := hx8.size
 try simp at z8
 replace G5 := Lib.hid (G5.out.ext (Ext.trans zxt hx8))
 replace G6 := Lib.hid (G6.out.ext (Ext.trans zxt hx8))
 replace G7 := Lib.hid (G7.out.ext (Ext.trans zxt hx8))
 have X8 : Hid (Ext w w8) := Lib.hid (Ext.trans zxt hx8)
 have G8 := Lib.hid gv8
 clear X7 hx8 z8 gv8
 go_wp2_with fail
 (with_reducible refine (gTimes v7 v8 (pS) (1000000000) (B1.small HS.out) (B1.small billion_b) _ (G7.out.ext zxt) (G8.out.ext zxt)).mono ?_)
 rintro e w9 ⟨v9, rfl, gv9, hx9⟩
 have z9 := hx9.size
 try simp at z9
 replace G5 := Lib.hid (G5.out.ext (Ext.trans zxt hx9))
 replace G6 := Lib.hid (G6.out.ext (Ext.trans zxt hx9))
 have X9 : Hid (Ext w w9) := Lib.hid (Ext.trans zxt hx9)
 have G9 := Lib.hid gv9
 clear G7 G8 X8 hx9 z9 gv9
 go_wp2_with fail
 (with_reducible refine (gLess v6 v5 (x * pT * pp) (x * D * 1000000000) false HL1.out _ (G6.out.ext zxt) (G5.out.ext zxt)).mono ?_)
 rintro e w10 ⟨rfl, hx10⟩
 have z10 := hx10.size
 try simp at z10
 replace G5 := Lib.hid (G5.out.ext (Ext.trans zxt hx10))
 replace G6 := Lib.hid (G6.out.ext (Ext.trans zxt hx10))
 replace G9 := Lib.hid (G9.out.ext (Ext.trans zxt hx10))
 have X10 : Hid (Ext w w10) := Lib.hid (Ext.trans zxt hx10)
 clear X9 hx10 z10
 go_wp2_with fail
 (with_reducible refine (gSum v5 v9 (x * D * 1000000000) (pS * 1000000000) (B3.small (B2.mul (B1.mul HX.out HD.out) billion_b)) (B2.small (B1.mul HS.out billion_b)) _ (G5.out.ext zxt) (G9.out.ext zxt)).mono ?_)
 rintro e w11 ⟨v10, rfl, gv10, hx11⟩
 have z11 := hx11.size
 try simp at z11
 replace G6 := Lib.hid (G6.out.ext (Ext.trans zxt hx11))
 have X11 : Hid (Ext w w11) := Lib.hid (Ext.trans zxt hx11)
 have G10 := Lib.hid gv10
 clear G5 G9 X10 hx11 z11 gv10
 go_wp2_with fail
 (with_reducible refine (gLess v6 v10 (x * pT * pp) (x * D * 1000000000 + pS * 1000000000) true HL2.out _ (G6.out.ext zxt) (G10.out.ext zxt)).mono ?_)
 rintro e w12 ⟨rfl, hx12⟩
 have z12 := hx12.size
 try simp at z12
 replace G6 := Lib.hid (G6.out.ext (Ext.trans zxt hx12))
 replace G10 := Lib.hid (G10.out.ext (Ext.trans zxt hx12))
 have X12 : Hid (Ext w w12) := Lib.hid (Ext.trans zxt hx12)
 clear X11 hx12 z12
 go_wp2_with fail
 go_ret
 exact ⟨rfl, zxt⟩
theorem posC_same (x0 x1 x2 x3 x4 x5 : Int) (w : World) : (binOp .neq 82 (.agg #[.int .i64 x0, .int .i64 x1, .int .i64 x2, .int .i64 x3, .int .i64 x4, .int .u64 x5]) (.agg #[.int .i64 x0, .int .i64 x1, .int .i64 x2, .int .i64 x3, .int .i64 x4, .int .u64 x5])).run Tryz.prog w = .ok (.bool false) w := by
 have hS : Tryz.prog.underlying 82 = some (.struct (Tryz.prog.fieldsOf 82)) := by kernel_rfl
 have hp : Tryz.prog.stoodInHeld 82 = false := by kernel_rfl
 rw [run_neq_struct, show (10000 : Nat) = 9999 + 1 from rfl, run_equalIn_agg w 9999 82 _ _ hS hp]
 simp only [Program.fieldsOf, Tryz.underlying82]
 simp [go_sem, posC_eqIn, Op.eqFields]
theorem tBk_at (V S P F v h : Int) (b : Bool) (hb : bkdB V S P F v h 0 = b) (w : World) : Calls Tryz.prog 49 #[.agg #[.int .i64 V, .int .i64 S, .int .i64 P, .int .i64 F], .int .i64 v, .int .i64 h, .int .i64 (-1)] w fun r w' => r = .returned (.bool b) ∧ Ext w w' := by
 rw [← hb, ← bkdB_neg]; exact tBacked_any V S P F v h (-1) w
structure BlW (w : World) (qh qg : Nat) (B B2 B3 B4 A9 : Option Addr) (d d2 d3 d4 c9 : Nat) (cl ps C P : List I6) (L : List I5) : Prop where
 bh : Bk w qh (.slice B cl.length d) (.slice B2 ps.length d2)
 bg : Bk w qg (.slice B3 C.length d3) (.slice B4 P.length d4)
 s1 : Sl w 6 B cl.length d (cl.flatMap clsC)
 s2 : Sl w 6 B2 ps.length d2 (ps.flatMap posC)
 s3 : Sl w 6 B3 C.length d3 (C.flatMap clsC)
 s4 : Sl w 6 B4 P.length d4 (P.flatMap posC)
 s5 : Sl w 5 A9 L.length c9 (L.flatMap lossC)
theorem BlW.ext {w w' : World} {qh qg : Nat} {B B2 B3 B4 A9 : Option Addr} {d d2 d3 d4 c9 : Nat} {cl ps C P : List I6} {L : List I5} (h : BlW w qh qg B B2 B3 B4 A9 d d2 d3 d4 c9 cl ps C P L) (hx : Ext w w') : BlW w' qh qg B B2 B3 B4 A9 d d2 d3 d4 c9 cl ps C P L :=
 ⟨h.bh.ext hx, h.bg.ext hx, h.s1.ext hx, h.s2.ext hx, h.s3.ext hx, h.s4.ext hx, h.s5.ext hx⟩
theorem hCut_in (c c2 : Nat) (A A2 : Option Addr) (cl ps C P' : List I6) (v h p N : Int) (L : List I5) (w : World) (hs : Sl w 6 A cl.length c (cl.flatMap clsC)) (hs2 : Sl w 6 A2 ps.length c2 (ps.flatMap posC)) (hn : cl.length < 1099511627776) (hn2 : ps.length < 1099511627776) (hA : A = none → c = 0) (hA2 : A2 = none → c2 = 0) (hw : ∀ x ∈ cl, WdC x) (hw2 : ∀ x ∈ ps, WdP x) (hp : Word p) (hz : hcutV cl ps v h p = (C, P', L, N, 0)) :
  Calls Tryz.prog 23 #[.agg #[.slice A cl.length c, .slice A2 ps.length c2], .int .i64 v, .int .i64 h, .int .u64 p] w fun e w' => ∃ B d B2 d2 A c, e = .returned (.tuple #[.agg #[.slice B C.length d, .slice B2 P'.length d2], .slice A L.length c, .int .u64 N, .int .i64 0]) ∧ OwnCls w' w.heap.size (.slice B C.length d) C.length C ∧ OwnPos w' w.heap.size (.slice B2 P'.length d2) P'.length P' ∧ OwnLoss w' w.heap.size (.slice A L.length c) L.length L ∧ Ext w w' := by
 have h9 := hCut_any c c2 A A2 cl ps v h p w hs hs2 hn hn2 hA hA2 hw hw2 hp
 rw [hz] at h9
 exact h9.mono (fun r w'' hh => RetK.ex hh)
theorem HoldingBlames_main (AL : Option Addr) (cL : Nat) (acts : List I9) (x1 : Int) (f1 : Fits .i64 x1) (x2 : Int) (f2 : Fits .i64 x2) (x3 : Int) (f3 : Fits .u64 x3) (w : World) (hL : Sl w 9 AL acts.length cL (acts.flatMap actC)) (fA : ∀ x ∈ acts, FitsA x) (hl : acts.length ≤ 30) :
  Calls Tryz.prog 7 #[.slice AL acts.length cL, .int .i64 x1, .int .i64 x2, .int .u64 x3] w fun r w' => r = .returned (.bool true) ∧ Ext w w' := by
 have hMd : ¬ (30 : Int) < (acts.length : Int) := by omega
 have HL := Lib.hid hL
 have HF := Lib.hid fA
 have hl9 : acts.length ≤ 100 := by omega
 have v1 := Int.emod_nonneg x1 (show (4 : Int) ≠ 0 by omega)
 have v2 := Int.emod_lt_of_pos x1 (show (0 : Int) < 4 by omega)
 obtain ⟨v, hv⟩ : ∃ z, z = x1 % 4 := ⟨_, rfl⟩
 rw [← hv] at v1 v2
 have PV : Hid (∀ w, Calls Tryz.prog 48 #[.int .i64 x1, .int .i64 4] w fun e w' => e = .returned (.int .i64 v) ∧ w = w') := Lib.hid (fun w => by rw [hv]; exact kPick_any x1 4 f1.i64.1 f1.i64.2 (by omega) (by omega) w)
 have r1 := Int.emod_nonneg x2 (show (22 : Int) ≠ 0 by omega)
 have r2 := Int.emod_lt_of_pos x2 (show (0 : Int) < 22 by omega)
 obtain ⟨r, hr⟩ : ∃ z, z = x2 % 22 := ⟨_, rfl⟩
 rw [← hr] at r1 r2
 have PR : Hid (∀ w, Calls Tryz.prog 48 #[.int .i64 x2, .int .i64 22] w fun e w' => e = .returned (.int .i64 r) ∧ w = w') := Lib.hid (fun w => by rw [hr]; exact kPick_any x2 22 f2.i64.1 f2.i64.2 (by omega) (by omega) w)
 obtain ⟨h, hh⟩ : ∃ z, z = 1 + r := ⟨_, rfl⟩
 have hwh : IntKind.i64.wrap (1 + r) = h := by rw [hh]; exact IntWalk.i64_in _ (by omega)
 have b01 := Int.emod_nonneg x3 (show (1000000001 : Int) ≠ 0 by omega)
 have b02 := Int.emod_lt_of_pos x3 (show (0 : Int) < 1000000001 by omega)
 have b03 : x3.tmod 1000000001 = x3 % 1000000001 := Int.tmod_eq_emod_of_nonneg f3.u64.1
 obtain ⟨p, hp⟩ : ∃ z, z = x3 % 1000000001 := ⟨_, rfl⟩
 rw [← hp] at b01 b02 b03
 have b04 : x3 % 1000000001 = p := hp.symm
 have HV := Lib.hid (show (0 ≤ v ∧ v < 4) ∧ (1 ≤ h ∧ h < 23) ∧ 0 ≤ p ∧ p ≤ 1000000000 from by omega)
 have HPB := Lib.hid (show B1 p from ⟨by omega, by omega⟩)
 clear hL fA hv hr hh hp v1 v2 r1 r2 b01 b02 hl f1 f2 f3
 go_enter Tryz.func7, Tryz.ntmps7
 go_wp2_with fail
 (with_reducible refine (known13_any _).mono ?_)
 rintro e w1 ⟨rfl, hx1⟩
 have z1 := hx1.size
 try simp at z1
 replace HL := Lib.hid (HL.out.ext (Ext.trans zxt hx1))
 have X1 : Hid (Ext w w1) := Lib.hid (Ext.trans zxt hx1)
 clear hx1
 go_wp2_with fail
 (with_reducible refine (made13_any AL cL acts _ (HL.out.ext zxt) HF.out hl9).mono ?_)
 rintro e w2 ⟨cl, ps, B, B2, d, d2, rfl, ⟨hok, hwd, hwd2⟩, hlC, hlP, nB, nB2, hO, hP, hx2⟩
 have z2 := hx2.size
 try simp at z2
 have X2 : Hid (Ext w w2) := Lib.hid (Ext.trans zxt hx2)
 have S1 := Lib.hid (OwnCls.sl hO)
 have S2 := Lib.hid (OwnPos.sl hP)
 clear HL X1 hx2
 have hlC2 : cl.length ≤ 30 := by omega
 have hlP2 : ps.length ≤ 30 := by omega
 have HK := Lib.hid (And.intro hok (And.intro hwd hwd2))
 obtain ⟨C, hCe⟩ : ∃ z, z = cutCs v h p cl := ⟨_, rfl⟩
 obtain ⟨P, hPe⟩ : ∃ z, z = keepP C ps := ⟨_, rfl⟩
 obtain ⟨LL, hLe⟩ : ∃ z, z = losCs v h p cl := ⟨_, rfl⟩
 have hZ : hcutV cl ps v h p = (C, P, LL, losN LL, 0) := by
  have h0 : hcutE cl ps v h p = 0 := by
   have h9 := HV.out
   unfold hcutE
   rw [if_neg (by simpa using (chkH_iff cl ps).2 hok), if_neg (by omega)]
  have h1 : hcutV cl ps v h p = _ := if_pos h0
  rw [h1, hPe, hCe, hLe]
 have CT := Lib.hid (fun (w' : World) (h1 : Sl w' 6 B cl.length d (cl.flatMap clsC)) (h2 : Sl w' 6 B2 ps.length d2 (ps.flatMap posC)) => hCut_in d d2 B B2 cl ps C P v h p (losN LL) LL w' h1 h2 (by omega) (by omega) nB nB2 hwd hwd2 HPB.out hZ)
 have HCE := Lib.hid (And.intro hCe (And.intro hPe hLe))
 clear hok hwd hwd2 hlC hlP hO hP hCe hPe hLe hZ
 go_wp2_with fail
 (with_reducible refine (PV.out _).mono ?_)
 rintro e w_1 ⟨rfl, rfl⟩
 go_wp2_with fail
 (with_reducible refine (PR.out _).mono ?_)
 rintro e w_2 ⟨rfl, rfl⟩
 go_wp2_with fail
 (refine (CT.out _ (S1.out.ext zxt) (S2.out.ext zxt)).mono ?_)
 rintro e w3 ⟨B3, d3, B4, d4, A9, c9, rfl, hO3, hO4, hO9, hx3⟩
 have c0_0f : w3.frozen? ⟨w2.heap.size, 0, none⟩ = false := hx3.froz (v := .slice B cl.length d) zcv zcv
 have c0_1f : w3.frozen? ⟨w2.heap.size, 1, none⟩ = false := hx3.froz (v := .slice B2 ps.length d2) zcv zcv
 have c0_0 : w3.cell? ⟨w2.heap.size, 0, none⟩ = some (.slice B cl.length d) := hx3.has zcv
 have c0_1 : w3.cell? ⟨w2.heap.size, 1, none⟩ = some (.slice B2 ps.length d2) := hx3.has zcv
 have z3 := hx3.size
 try simp at z3
 have rc0 := zr w2.heap.size w3
 replace S1 := Lib.hid (S1.out.ext (Ext.trans zxt hx3))
 replace S2 := Lib.hid (S2.out.ext (Ext.trans zxt hx3))
 have X3 : Hid (Ext w w3) := Lib.hid (Ext.trans zxt hx3)
 have S3 := Lib.hid (OwnCls.sl hO3)
 have S4 := Lib.hid (OwnPos.sl hO4)
 have S5 := Lib.hid (OwnLoss.sl hO9)
 clear X2 hx3
 clear hO3 hO4 hO9
 go_wp2_with fail
 go_loopg [18, 19] cl.length (fun gh n i wx => gh ≤ cl.length ∧ n = .int .i64 (((losCs v h p (cl.take (cl.length - gh))).length : Nat) : Int) ∧ i = .int .i64 ((cl.length - gh : Nat) : Int) ∧ Hid (BlW wx w2.heap.size w3.heap.size B B2 B3 B4 A9 d d2 d3 d4 c9 cl ps C P LL) ∧ Hid (Ext w wx))
 case atStart => exact ⟨Nat.le_refl _, by rw [Nat.sub_self]; rfl, by simp, Lib.hid (BlW.mk (show Bk _ w2.heap.size (.slice B cl.length d) (.slice B2 ps.length d2) from ⟨zcv, zcv, zcv, zcv⟩) (show Bk _ w3.heap.size (.slice B3 C.length d3) (.slice B4 P.length d4) from ⟨zcv, zcv, zcv, zcv⟩) (S1.out.ext zxt) (S2.out.ext zxt) (S3.out.ext zxt) (S4.out.ext zxt) (S5.out.ext zxt)), Lib.hid zxt⟩
 obtain ⟨hg, hn, hi, BW, XW⟩ := hrel
 obtain ⟨ix, hix⟩ : ∃ k, k = cl.length - gk := ⟨_, rfl⟩
 rw [← hix] at hn hi
 subst hi
 obtain ⟨nn, hnn⟩ : ∃ k, k = (losCs v h p (cl.take ix)).length := ⟨_, rfl⟩
 rw [← hnn] at hn
 subst hn
 have h_0 := BW.out.bh.c0
 have h_1 := BW.out.bh.c1
 have g_0 := BW.out.bg.c0
 have g_1 := BW.out.bg.c1
 have hlh := cell_lt h_0
 have hlg := cell_lt g_0
 have hnh : ¬ w2.heap.size = wr.heap.size := by omega
 have hng : ¬ w3.heap.size = wr.heap.size := by omega
 by_cases hz : gk = 0
 ·have hkn : ¬ (ix : Int) < (cl.length : Int) := by omega
  have hnL : nn = LL.length := by rw [hnn, HCE.out.2.2, List.take_of_length_le (by omega)]
  clear hix hnn
  subst hnL
  go_wp2_with fail
  go_loopg [23, 24] ps.length (fun gh n i wx => gh ≤ ps.length ∧ n = .int .i64 (((keepP C (ps.take (ps.length - gh))).length : Nat) : Int) ∧ i = .int .i64 ((ps.length - gh : Nat) : Int) ∧ Hid (BlW wx w2.heap.size w3.heap.size B B2 B3 B4 A9 d d2 d3 d4 c9 cl ps C P LL) ∧ Hid (Ext w wx))
  case atStart => exact ⟨Nat.le_refl _, by rw [Nat.sub_self]; rfl, by simp, Lib.hid (BW.out.ext zxt), Lib.hid (Ext.trans XW.out zxt)⟩
  clear h_0 h_1 g_0 g_1 hlh hlg hnh hng hkn BW XW hg hz
  obtain ⟨hg, hn, hi, BW, XW⟩ := hrel
  obtain ⟨iy, hix⟩ : ∃ k, k = ps.length - gk := ⟨_, rfl⟩
  rw [← hix] at hn hi
  subst hi
  obtain ⟨kk, hnn⟩ : ∃ k, k = (keepP C (ps.take iy)).length := ⟨_, rfl⟩
  rw [← hnn] at hn
  subst hn
  have h_0 := BW.out.bh.c0
  have h_1 := BW.out.bh.c1
  have g_0 := BW.out.bg.c0
  have g_1 := BW.out.bg.c1
  have hlh := cell_lt h_0
  have hlg := cell_lt g_0
  have hnh : ¬ w2.heap.size = wr.heap.size := by omega
  have hng : ¬ w3.heap.size = wr.heap.size := by omega
  by_cases hz : gk = 0
  ·have hkn : ¬ (iy : Int) < (ps.length : Int) := by omega
   have hnL : kk = P.length := by rw [hnn, HCE.out.2.1, List.take_of_length_le (by omega)]
   clear hix hnn
   subst hnL
   go_wp2_with fail
   go_ret
   exact ⟨rfl, Ext.trans XW.out zxt⟩
  have hkn : (iy : Int) < (ps.length : Int) := by omega
  have hkl : iy < ps.length := by omega
  have hiw : IntKind.i64.wrap ((iy : Int) + 1) = (iy : Int) + 1 := IntWalk.i64_in _ (by omega)
  obtain ⟨b1, o1, rfl, hb1, hc_a⟩ := BW.out.s2.rec_ posC_len (show 0 < ps.length from by omega)
  obtain ⟨aw, hl_a⟩ : ∃ x, ps[iy]? = some x := ⟨_, List.getElem?_eq_getElem (by omega)⟩
  have a_0 := hc_a (iy) aw hl_a 0 _ rfl
  have a_1 := hc_a (iy) aw hl_a 1 _ rfl
  have a_2 := hc_a (iy) aw hl_a 2 _ rfl
  have a_3 := hc_a (iy) aw hl_a 3 _ rfl
  have a_4 := hc_a (iy) aw hl_a 4 _ rfl
  have a_5 := hc_a (iy) aw hl_a 5 _ rfl
  obtain ⟨pO, pV, pS, pP, pF, pn⟩ := aw
  simp only at a_0 a_1 a_2 a_3 a_4 a_5
  rw [Nat.add_zero] at a_0
  rw [← Nat.add_assoc] at a_1 a_2 a_3 a_4 a_5
  obtain ⟨T, H, T', H', TB, e1, e2, e3, e4, e5, wT, wH, wT', wH', hle, wn, hat, hst, hbl⟩ := cut_pos (v := v) (h := h) HK.out.1 HK.out.2.1 HK.out.2.2 HV.out.2.2.1 HV.out.2.2.2 hl_a
  rw [← HCE.out.1] at e3 e4 e5 hat hst
  have CH := Lib.hid (fun (w' : World) (h1 : Sl w' 6 B cl.length d (cl.flatMap clsC)) => hFind_any cl.length d ps.length d2 B (some ⟨b1, o1, none⟩) cl pV pS pP pF w' h1)
  have CG := Lib.hid (fun (w' : World) (h1 : Sl w' 6 B3 C.length d3 (C.flatMap clsC)) => hFind_any C.length d3 P.length d4 B3 B4 C pV pS pP pF w' h1)
  obtain ⟨WB, e0⟩ : ∃ z, z = (getK kC cl [pV, pS, pP, pF]).isSome := ⟨_, rfl⟩
  rw [e1, e2, ← e0] at CH
  rw [e3, e4, e5] at CG
  obtain ⟨BB, e6⟩ : ∃ z, z = bkdB pV pS pP pF v h 0 := ⟨_, rfl⟩
  have CB := Lib.hid (fun (w' : World) => tBk_at pV pS pP pF v h BB e6.symm w')
  rw [← e6] at hbl
  obtain ⟨DD, hD⟩ : ∃ z, z = T - T' := ⟨_, rfl⟩
  rw [← hD] at hbl
  have CM := Lib.hid (fun (hb : BB = true) (w' : World) => blamed13_any pn T H T' H' p DD wn wT wH ⟨by omega, by have := wT.2; have := wT'.1; omega⟩ HPB.out (by rw [hD]; exact IntWalk.u64_in _ (by have := wT.2; have := wT'.1; omega)) (by omega) (hbl hb).1 (hbl hb).2 w')
  have hk2 : TB = true → kk < P.length := fun hh => by have h9 := hat hh; rw [← HCE.out.2.1, ← hnn] at h9; exact (List.getElem?_eq_some_iff.1 h9).1
  have hat2 : TB = true → P[kk]? = some (pO, pV, pS, pP, pF, pn) := fun hh => by have h9 := hat hh; rw [← HCE.out.2.1, ← hnn] at h9; exact h9
  have hps : P.length ≤ 30 := by rw [HCE.out.2.1]; exact Nat.le_trans (List.length_filter_le ..) hlP2
  rw [← hnn] at hst
  have HN := Lib.hid (And.intro hix (And.intro hg hz))
  have pn1 := posC_same
  have pg1 := posC_eqg
  clear e0 e1 e2 e3 e4 e5 e6 wT wH wT' wH' hle wn hat hbl hD hix hg hz hnn hl_a
  rcases (show TB = true ∨ TB = false from by cases TB <;> simp) with rfl | rfl
  ·have hkP : kk < P.length := hk2 rfl
   have hkQ : (kk : Int) < (P.length : Int) := by omega
   have hkR : decide ((P.length : Int) ≤ (kk : Int)) = false := decide_eq_false (by omega)
   have hkR2 : decide (P.length ≤ kk) = false := decide_eq_false (by omega)
   have hkw : IntKind.i64.wrap ((kk : Int) + 1) = (kk : Int) + 1 := IntWalk.i64_in _ (by omega)
   have hyy := hat2 rfl
   obtain ⟨b2, o2, rfl, hb2, hc2⟩ := BW.out.s4.rec_ posC_len (show 0 < P.length from by omega)
   have y_0 := hc2 kk _ hyy 0 _ rfl
   have y_1 := hc2 kk _ hyy 1 _ rfl
   have y_2 := hc2 kk _ hyy 2 _ rfl
   have y_3 := hc2 kk _ hyy 3 _ rfl
   have y_4 := hc2 kk _ hyy 4 _ rfl
   have y_5 := hc2 kk _ hyy 5 _ rfl
   simp only at y_0 y_1 y_2 y_3 y_4 y_5
   rw [Nat.add_zero] at y_0
   rw [← Nat.add_assoc] at y_1 y_2 y_3 y_4 y_5
   clear hc2 hyy hat2 hk2
   rcases (show BB = true ∨ BB = false from by cases BB <;> simp) with rfl | rfl
   ·go_wp2_with fail
    (with_reducible refine (CH.out _ ((BW.out.ext zxt)).s1).mono ?_)
    rintro e w21 ⟨rfl, hx21⟩
    replace g_0 := zh hx21 g_0
    replace g_1 := zh hx21 g_1
    replace y_0 := zh hx21 y_0
    replace y_1 := zh hx21 y_1
    replace y_2 := zh hx21 y_2
    replace y_3 := zh hx21 y_3
    replace y_4 := zh hx21 y_4
    replace y_5 := zh hx21 y_5
    have c0_0 : w21.cell? ⟨wr.heap.size, 0, none⟩ = some (.int .i64 pO) := hx21.has zcv
    have c0_1 : w21.cell? ⟨wr.heap.size, 1, none⟩ = some (.int .i64 pV) := hx21.has zcv
    have c0_2 : w21.cell? ⟨wr.heap.size, 2, none⟩ = some (.int .i64 pS) := hx21.has zcv
    have c0_3 : w21.cell? ⟨wr.heap.size, 3, none⟩ = some (.int .i64 pP) := hx21.has zcv
    have c0_4 : w21.cell? ⟨wr.heap.size, 4, none⟩ = some (.int .i64 pF) := hx21.has zcv
    have c0_5 : w21.cell? ⟨wr.heap.size, 5, none⟩ = some (.int .u64 pn) := hx21.has zcv
    have z21 := hx21.size
    try simp at z21
    have lt_g_c0 := zl w3.heap.size wr.heap.size
    have lt_y_c0 := zl b2 wr.heap.size
    have rg := zr w3.heap.size w21
    have ry := zr b2 w21
    have rc0 := zr wr.heap.size w21
    replace BW := Lib.hid (BW.out.ext (Ext.trans zxt hx21))
    have X21 : Hid (Ext wr w21) := Lib.hid (Ext.trans zxt hx21)
    clear h_0 h_1 a_3 a_1 a_4 a_5 a_0 a_2 hx21
    go_wp2_with fail
    (with_reducible refine (CG.out _ ((BW.out.ext zxt)).s3).mono ?_)
    rintro e w22 ⟨rfl, hx22⟩
    replace g_1 := zh hx22 g_1
    replace y_0 := zh hx22 y_0
    replace y_1 := zh hx22 y_1
    replace y_2 := zh hx22 y_2
    replace y_3 := zh hx22 y_3
    replace y_4 := zh hx22 y_4
    replace y_5 := zh hx22 y_5
    replace c0_0 := zh hx22 c0_0
    replace c0_1 := zh hx22 c0_1
    replace c0_2 := zh hx22 c0_2
    replace c0_3 := zh hx22 c0_3
    replace c0_4 := zh hx22 c0_4
    replace c0_5 := zh hx22 c0_5
    have c1_0 : w22.cell? ⟨w21.heap.size, 0, none⟩ = some (.int .u64 T) := hx22.has zcv
    have c1_1 : w22.cell? ⟨w21.heap.size, 1, none⟩ = some (.int .u64 H) := hx22.has zcv
    have z22 := hx22.size
    try simp at z22
    have lt_g_c1 := zl w3.heap.size w21.heap.size
    have lt_y_c1 := zl b2 w21.heap.size
    have lt_c0_c1 := zl wr.heap.size w21.heap.size
    replace rg := zr w3.heap.size w22
    replace ry := zr b2 w22
    replace rc0 := zr wr.heap.size w22
    have rc1 := zr w21.heap.size w22
    replace BW := Lib.hid (BW.out.ext (Ext.trans zxt hx22))
    have X22 : Hid (Ext wr w22) := Lib.hid (Ext.trans zxt hx22)
    clear g_0 X21 hx22
    go_wp2_with fail
    refine wp_region_held_drew (S := fun w' => w'.cell? ⟨wr.heap.size, 0, none⟩ = some (.int .i64 pO) ∧ w'.cell? ⟨wr.heap.size, 1, none⟩ = some (.int .i64 pV) ∧ w'.cell? ⟨wr.heap.size, 2, none⟩ = some (.int .i64 pS) ∧ w'.cell? ⟨wr.heap.size, 3, none⟩ = some (.int .i64 pP) ∧ w'.cell? ⟨wr.heap.size, 4, none⟩ = some (.int .i64 pF) ∧ w'.cell? ⟨wr.heap.size, 5, none⟩ = some (.int .u64 pn) ∧ w'.cell? ⟨w3.heap.size, 1, none⟩ = some (.slice (some ⟨b2, o2, none⟩) P.length d4) ∧ w'.cell? ⟨b2, o2 + kk * 6, none⟩ = some (.int .i64 pO) ∧ w'.cell? ⟨b2, o2 + kk * 6 + 1, none⟩ = some (.int .i64 pV) ∧ w'.cell? ⟨b2, o2 + kk * 6 + 2, none⟩ = some (.int .i64 pS) ∧ w'.cell? ⟨b2, o2 + kk * 6 + 3, none⟩ = some (.int .i64 pP) ∧ w'.cell? ⟨b2, o2 + kk * 6 + 4, none⟩ = some (.int .i64 pF) ∧ w'.cell? ⟨b2, o2 + kk * 6 + 5, none⟩ = some (.int .u64 pn)) (by kernel_rfl) (by first | with_reducible exact ⟨c0_0, c0_1, c0_2, c0_3, c0_4, c0_5, g_1, y_0, y_1, y_2, y_3, y_4, y_5⟩ | (simp [go_sem, World.cell?_alloc_past, *]; done)) (fun hHeld => ?_)
    refine' zt 0 ?_
    refine' zt 1 ?_
    refine' zt 2 ?_
    refine' zt 3 ?_
    refine' zt 4 ?_
    refine' zt 5 ?_
    refine' zt 6 ?_
    refine' zt 7 ?_
    refine' zt 8 ?_
    refine' zt 9 ?_
    refine' zt 10 ?_
    refine' zt 11 ?_
    refine' zt 12 ?_
    refine' zt 13 ?_
    refine wpAnyH_done (by kernel_rfl) ?_ _
    go_wp2_with fail
    (with_reducible refine (CB.out _).mono ?_)
    rintro e w23 ⟨rfl, hx23⟩
    replace g_1 := zh hx23 g_1
    replace y_0 := zh hx23 y_0
    replace y_1 := zh hx23 y_1
    replace y_2 := zh hx23 y_2
    replace y_3 := zh hx23 y_3
    replace y_4 := zh hx23 y_4
    replace y_5 := zh hx23 y_5
    replace c0_0 := zh hx23 c0_0
    replace c0_1 := zh hx23 c0_1
    replace c0_2 := zh hx23 c0_2
    replace c0_3 := zh hx23 c0_3
    replace c0_4 := zh hx23 c0_4
    replace c0_5 := zh hx23 c0_5
    replace c1_0 := zh hx23 c1_0
    replace c1_1 := zh hx23 c1_1
    have c2_0 : w23.cell? ⟨w22.heap.size, 0, none⟩ = some (.int .u64 T') := hx23.has zcv
    have c2_1 : w23.cell? ⟨w22.heap.size, 1, none⟩ = some (.int .u64 H') := hx23.has zcv
    have z23 := hx23.size
    try simp at z23
    have lt_g_c2 := zl w3.heap.size w22.heap.size
    have lt_y_c2 := zl b2 w22.heap.size
    have lt_c0_c2 := zl wr.heap.size w22.heap.size
    have lt_c1_c2 := zl w21.heap.size w22.heap.size
    replace rg := zr w3.heap.size w23
    replace ry := zr b2 w23
    replace rc0 := zr wr.heap.size w23
    replace rc1 := zr w21.heap.size w23
    have rc2 := zr w22.heap.size w23
    replace BW := Lib.hid (BW.out.ext (Ext.trans zxt hx23))
    have X23 : Hid (Ext wr w23) := Lib.hid (Ext.trans zxt hx23)
    clear X22 hx23
    go_wp2_with fail
    (with_reducible refine (CM.out (by trivial) _).mono ?_)
    rintro e w24 ⟨rfl, hx24⟩
    have z24 := hx24.size
    try simp at z24
    replace BW := Lib.hid (BW.out.ext (Ext.trans zxt hx24))
    have X24 : Hid (Ext wr w24) := Lib.hid (Ext.trans zxt hx24)
    clear g_1 y_2 y_0 y_1 y_3 y_5 y_4 c0_5 c0_4 c0_2 c0_3 c0_0 c0_1 c1_1 c1_0 c2_0 c2_1 rc0 rg rc2 ry rc1 X23 hx24
    go_wp2_with fail
    go_roundg (gk - 1)
    case measure => have := HN.out; omega
    exact ⟨by have := HN.out; omega, num_eq zSlTbl1_2, num_eq (by have := HN.out; omega), Lib.hid (BW.out.ext zxt), Lib.hid (Ext.trans XW.out zxt)⟩
   go_wp2_with fail
   (with_reducible refine (CH.out _ ((BW.out.ext zxt)).s1).mono ?_)
   rintro e w21 ⟨rfl, hx21⟩
   replace g_0 := zh hx21 g_0
   replace g_1 := zh hx21 g_1
   replace y_0 := zh hx21 y_0
   replace y_1 := zh hx21 y_1
   replace y_2 := zh hx21 y_2
   replace y_3 := zh hx21 y_3
   replace y_4 := zh hx21 y_4
   replace y_5 := zh hx21 y_5
   have c0_0 : w21.cell? ⟨wr.heap.size, 0, none⟩ = some (.int .i64 pO) := hx21.has zcv
   have c0_1 : w21.cell? ⟨wr.heap.size, 1, none⟩ = some (.int .i64 pV) := hx21.has zcv
   have c0_2 : w21.cell? ⟨wr.heap.size, 2, none⟩ = some (.int .i64 pS) := hx21.has zcv
   have c0_3 : w21.cell? ⟨wr.heap.size, 3, none⟩ = some (.int .i64 pP) := hx21.has zcv
   have c0_4 : w21.cell? ⟨wr.heap.size, 4, none⟩ = some (.int .i64 pF) := hx21.has zcv
   have c0_5 : w21.cell? ⟨wr.heap.size, 5, none⟩ = some (.int .u64 pn) := hx21.has zcv
   have z21 := hx21.size
   try simp at z21
   have lt_g_c0 := zl w3.heap.size wr.heap.size
   have lt_y_c0 := zl b2 wr.heap.size
   have rg := zr w3.heap.size w21
   have ry := zr b2 w21
   have rc0 := zr wr.heap.size w21
   replace BW := Lib.hid (BW.out.ext (Ext.trans zxt hx21))
   have X21 : Hid (Ext wr w21) := Lib.hid (Ext.trans zxt hx21)
   clear h_0 h_1 a_3 a_1 a_4 a_5 a_0 a_2 hx21
   go_wp2_with fail
   (with_reducible refine (CG.out _ ((BW.out.ext zxt)).s3).mono ?_)
   rintro e w22 ⟨rfl, hx22⟩
   replace g_1 := zh hx22 g_1
   replace y_0 := zh hx22 y_0
   replace y_1 := zh hx22 y_1
   replace y_2 := zh hx22 y_2
   replace y_3 := zh hx22 y_3
   replace y_4 := zh hx22 y_4
   replace y_5 := zh hx22 y_5
   replace c0_0 := zh hx22 c0_0
   replace c0_1 := zh hx22 c0_1
   replace c0_2 := zh hx22 c0_2
   replace c0_3 := zh hx22 c0_3
   replace c0_4 := zh hx22 c0_4
   replace c0_5 := zh hx22 c0_5
   have z22 := hx22.size
   try simp at z22
   replace rg := zr w3.heap.size w22
   replace ry := zr b2 w22
   replace rc0 := zr wr.heap.size w22
   replace BW := Lib.hid (BW.out.ext (Ext.trans zxt hx22))
   have X22 : Hid (Ext wr w22) := Lib.hid (Ext.trans zxt hx22)
   clear g_0 X21 hx22
   go_wp2_with fail
   refine wp_region_held_drew (S := fun w' => w'.cell? ⟨wr.heap.size, 0, none⟩ = some (.int .i64 pO) ∧ w'.cell? ⟨wr.heap.size, 1, none⟩ = some (.int .i64 pV) ∧ w'.cell? ⟨wr.heap.size, 2, none⟩ = some (.int .i64 pS) ∧ w'.cell? ⟨wr.heap.size, 3, none⟩ = some (.int .i64 pP) ∧ w'.cell? ⟨wr.heap.size, 4, none⟩ = some (.int .i64 pF) ∧ w'.cell? ⟨wr.heap.size, 5, none⟩ = some (.int .u64 pn) ∧ w'.cell? ⟨w3.heap.size, 1, none⟩ = some (.slice (some ⟨b2, o2, none⟩) P.length d4) ∧ w'.cell? ⟨b2, o2 + kk * 6, none⟩ = some (.int .i64 pO) ∧ w'.cell? ⟨b2, o2 + kk * 6 + 1, none⟩ = some (.int .i64 pV) ∧ w'.cell? ⟨b2, o2 + kk * 6 + 2, none⟩ = some (.int .i64 pS) ∧ w'.cell? ⟨b2, o2 + kk * 6 + 3, none⟩ = some (.int .i64 pP) ∧ w'.cell? ⟨b2, o2 + kk * 6 + 4, none⟩ = some (.int .i64 pF) ∧ w'.cell? ⟨b2, o2 + kk * 6 + 5, none⟩ = some (.int .u64 pn)) (by kernel_rfl) (by first | with_reducible exact ⟨c0_0, c0_1, c0_2, c0_3, c0_4, c0_5, g_1, y_0, y_1, y_2, y_3, y_4, y_5⟩ | (simp [go_sem, World.cell?_alloc_past, *]; done)) (fun hHeld => ?_)
   refine' zt 0 ?_
   refine' zt 1 ?_
   refine' zt 2 ?_
   refine' zt 3 ?_
   refine' zt 4 ?_
   refine' zt 5 ?_
   refine' zt 6 ?_
   refine' zt 7 ?_
   refine' zt 8 ?_
   refine' zt 9 ?_
   refine' zt 10 ?_
   refine' zt 11 ?_
   refine' zt 12 ?_
   refine' zt 13 ?_
   refine wpAnyH_done (by kernel_rfl) ?_ _
   go_wp2_with fail
   (with_reducible refine (CB.out _).mono ?_)
   rintro e w23 ⟨rfl, hx23⟩
   replace g_1 := zh hx23 g_1
   replace y_0 := zh hx23 y_0
   replace y_1 := zh hx23 y_1
   replace y_2 := zh hx23 y_2
   replace y_3 := zh hx23 y_3
   replace y_4 := zh hx23 y_4
   replace y_5 := zh hx23 y_5
   replace c0_0 := zh hx23 c0_0
   replace c0_1 := zh hx23 c0_1
   replace c0_2 := zh hx23 c0_2
   replace c0_3 := zh hx23 c0_3
   replace c0_4 := zh hx23 c0_4
   replace c0_5 := zh hx23 c0_5
   have z23 := hx23.size
   try simp at z23
   replace rg := zr w3.heap.size w23
   replace ry := zr b2 w23
   replace rc0 := zr wr.heap.size w23
   replace BW := Lib.hid (BW.out.ext (Ext.trans zxt hx23))
   have X23 : Hid (Ext wr w23) := Lib.hid (Ext.trans zxt hx23)
   clear X22 hx23
   go_wp2_with fail
   go_roundg (gk - 1)
   case measure => have := HN.out; omega
   exact ⟨by have := HN.out; omega, num_eq zSlTbl1_2, num_eq (by have := HN.out; omega), Lib.hid (BW.out.ext zxt), Lib.hid (Ext.trans XW.out zxt)⟩
  clear hat2 hk2
  rcases (show BB = true ∨ BB = false from by cases BB <;> simp) with rfl | rfl
  ·go_wp2_with fail
   (with_reducible refine (CH.out _ ((BW.out.ext zxt)).s1).mono ?_)
   rintro e w21 ⟨rfl, hx21⟩
   replace g_0 := zh hx21 g_0
   replace g_1 := zh hx21 g_1
   have c0_1 : w21.cell? ⟨wr.heap.size, 1, none⟩ = some (.int .i64 pV) := hx21.has zcv
   have c0_2 : w21.cell? ⟨wr.heap.size, 2, none⟩ = some (.int .i64 pS) := hx21.has zcv
   have c0_3 : w21.cell? ⟨wr.heap.size, 3, none⟩ = some (.int .i64 pP) := hx21.has zcv
   have c0_4 : w21.cell? ⟨wr.heap.size, 4, none⟩ = some (.int .i64 pF) := hx21.has zcv
   have c0_5 : w21.cell? ⟨wr.heap.size, 5, none⟩ = some (.int .u64 pn) := hx21.has zcv
   have z21 := hx21.size
   try simp at z21
   have lt_g_c0 := zl w3.heap.size wr.heap.size
   have rg := zr w3.heap.size w21
   have rc0 := zr wr.heap.size w21
   replace BW := Lib.hid (BW.out.ext (Ext.trans zxt hx21))
   have X21 : Hid (Ext wr w21) := Lib.hid (Ext.trans zxt hx21)
   clear h_0 h_1 a_3 a_1 a_4 a_5 a_0 a_2 hx21
   go_wp2_with fail
   (with_reducible refine (CG.out _ ((BW.out.ext zxt)).s3).mono ?_)
   rintro e w22 ⟨rfl, hx22⟩
   replace c0_1 := zh hx22 c0_1
   replace c0_2 := zh hx22 c0_2
   replace c0_3 := zh hx22 c0_3
   replace c0_4 := zh hx22 c0_4
   replace c0_5 := zh hx22 c0_5
   have c1_0 : w22.cell? ⟨w21.heap.size, 0, none⟩ = some (.int .u64 T) := hx22.has zcv
   have c1_1 : w22.cell? ⟨w21.heap.size, 1, none⟩ = some (.int .u64 H) := hx22.has zcv
   have z22 := hx22.size
   try simp at z22
   have lt_c0_c1 := zl wr.heap.size w21.heap.size
   replace rc0 := zr wr.heap.size w22
   have rc1 := zr w21.heap.size w22
   replace BW := Lib.hid (BW.out.ext (Ext.trans zxt hx22))
   have X22 : Hid (Ext wr w22) := Lib.hid (Ext.trans zxt hx22)
   clear g_0 g_1 rg X21 hx22
   go_wp2_with fail
   (with_reducible refine (CB.out _).mono ?_)
   rintro e w23 ⟨rfl, hx23⟩
   replace c0_5 := zh hx23 c0_5
   replace c1_0 := zh hx23 c1_0
   replace c1_1 := zh hx23 c1_1
   have c2_0 : w23.cell? ⟨w22.heap.size, 0, none⟩ = some (.int .u64 T') := hx23.has zcv
   have c2_1 : w23.cell? ⟨w22.heap.size, 1, none⟩ = some (.int .u64 H') := hx23.has zcv
   have z23 := hx23.size
   try simp at z23
   have lt_c0_c2 := zl wr.heap.size w22.heap.size
   have lt_c1_c2 := zl w21.heap.size w22.heap.size
   replace rc0 := zr wr.heap.size w23
   replace rc1 := zr w21.heap.size w23
   have rc2 := zr w22.heap.size w23
   replace BW := Lib.hid (BW.out.ext (Ext.trans zxt hx23))
   have X23 : Hid (Ext wr w23) := Lib.hid (Ext.trans zxt hx23)
   clear c0_3 c0_4 c0_2 c0_1 X22 hx23
   go_wp2_with fail
   (with_reducible refine (CM.out (by trivial) _).mono ?_)
   rintro e w24 ⟨rfl, hx24⟩
   have z24 := hx24.size
   try simp at z24
   replace BW := Lib.hid (BW.out.ext (Ext.trans zxt hx24))
   have X24 : Hid (Ext wr w24) := Lib.hid (Ext.trans zxt hx24)
   clear c0_5 c1_1 c1_0 c2_0 c2_1 rc0 rc2 rc1 X23 hx24
   go_wp2_with fail
   go_roundg (gk - 1)
   case measure => have := HN.out; omega
   exact ⟨by have := HN.out; omega, num_eq zSlTbl1_2, num_eq (by have := HN.out; omega), Lib.hid (BW.out.ext zxt), Lib.hid (Ext.trans XW.out zxt)⟩
  go_wp2_with fail
  (with_reducible refine (CH.out _ ((BW.out.ext zxt)).s1).mono ?_)
  rintro e w21 ⟨rfl, hx21⟩
  replace g_0 := zh hx21 g_0
  replace g_1 := zh hx21 g_1
  have c0_1 : w21.cell? ⟨wr.heap.size, 1, none⟩ = some (.int .i64 pV) := hx21.has zcv
  have c0_2 : w21.cell? ⟨wr.heap.size, 2, none⟩ = some (.int .i64 pS) := hx21.has zcv
  have c0_3 : w21.cell? ⟨wr.heap.size, 3, none⟩ = some (.int .i64 pP) := hx21.has zcv
  have c0_4 : w21.cell? ⟨wr.heap.size, 4, none⟩ = some (.int .i64 pF) := hx21.has zcv
  have z21 := hx21.size
  try simp at z21
  have lt_g_c0 := zl w3.heap.size wr.heap.size
  have rg := zr w3.heap.size w21
  have rc0 := zr wr.heap.size w21
  replace BW := Lib.hid (BW.out.ext (Ext.trans zxt hx21))
  have X21 : Hid (Ext wr w21) := Lib.hid (Ext.trans zxt hx21)
  clear h_0 h_1 a_3 a_1 a_4 a_5 a_0 a_2 hx21
  go_wp2_with fail
  (with_reducible refine (CG.out _ ((BW.out.ext zxt)).s3).mono ?_)
  rintro e w22 ⟨rfl, hx22⟩
  replace c0_1 := zh hx22 c0_1
  replace c0_2 := zh hx22 c0_2
  replace c0_3 := zh hx22 c0_3
  replace c0_4 := zh hx22 c0_4
  have z22 := hx22.size
  try simp at z22
  replace rc0 := zr wr.heap.size w22
  replace BW := Lib.hid (BW.out.ext (Ext.trans zxt hx22))
  have X22 : Hid (Ext wr w22) := Lib.hid (Ext.trans zxt hx22)
  clear g_0 g_1 rg X21 hx22
  go_wp2_with fail
  (with_reducible refine (CB.out _).mono ?_)
  rintro e w23 ⟨rfl, hx23⟩
  have z23 := hx23.size
  try simp at z23
  replace BW := Lib.hid (BW.out.ext (Ext.trans zxt hx23))
  have X23 : Hid (Ext wr w23) := Lib.hid (Ext.trans zxt hx23)
  clear c0_2 c0_1 c0_3 c0_4 rc0 X22 hx23
  go_wp2_with fail
  go_roundg (gk - 1)
  case measure => have := HN.out; omega
  exact ⟨by have := HN.out; omega, num_eq zSlTbl1_2, num_eq (by have := HN.out; omega), Lib.hid (BW.out.ext zxt), Lib.hid (Ext.trans XW.out zxt)⟩
 have hkn : (ix : Int) < (cl.length : Int) := by omega
 have hkl : ix < cl.length := by omega
 have hiw : IntKind.i64.wrap ((ix : Int) + 1) = (ix : Int) + 1 := IntWalk.i64_in _ (by omega)
 obtain ⟨b1, o1, rfl, hb1, hc_a⟩ := BW.out.s1.rec_ clsC_len (show 0 < cl.length from by omega)
 obtain ⟨aw, hl_a⟩ : ∃ x, cl[ix]? = some x := ⟨_, List.getElem?_eq_getElem (by omega)⟩
 have a_0 := hc_a (ix) aw hl_a 0 _ rfl
 have a_1 := hc_a (ix) aw hl_a 1 _ rfl
 have a_2 := hc_a (ix) aw hl_a 2 _ rfl
 have a_3 := hc_a (ix) aw hl_a 3 _ rfl
 have a_4 := hc_a (ix) aw hl_a 4 _ rfl
 have a_5 := hc_a (ix) aw hl_a 5 _ rfl
 obtain ⟨aV, aS, aP, aF, aT, aH⟩ := aw
 simp only at a_0 a_1 a_2 a_3 a_4 a_5
 rw [Nat.add_zero] at a_0
 rw [← Nat.add_assoc] at a_1 a_2 a_3 a_4 a_5
 have hLL : LL.length ≤ 30 := by rw [HCE.out.2.2]; exact Nat.le_trans (List.length_filterMap_le ..) hlC2
 have CG := Lib.hid (fun (w' : World) (h1 : Sl w' 6 B3 C.length d3 (C.flatMap clsC)) => hFind_any C.length d3 P.length d4 B3 B4 C aV aS aP aF w' h1)
 have HN := Lib.hid (And.intro hix (And.intro hg hz))
 have waT : Word aT := (HK.out.2.1 _ (List.mem_of_getElem? hl_a)).1
 have pn1 := pol_ne
 have pg1 := pol_eqg
 have sn1 := stm_ne
 have sg1 := stm_eqg
 clear hix hg hz
 rcases (show bkdB aV aS aP aF v h 0 = false ∨ bkdB aV aS aP aF v h 0 = true from by cases bkdB aV aS aP aF v h 0 <;> simp) with hb | hb
 ·obtain ⟨e1, e2, e3, e4⟩ := cut_out (p := p) HK.out.1.sc hl_a hb
  rw [← HCE.out.1] at e1 e2 e3
  rw [e1, e2, e3] at CG
  have hst := Lib.hid (show (losCs v h p (cl.take (ix + 1))).length = nn from by rw [e4, hnn])
  have CB := Lib.hid (fun (w' : World) => tBk_at aV aS aP aF v h false hb w')
  clear e1 e2 e3 e4 hb hnn hl_a waT
  go_wp2_with fail
  (with_reducible refine (CG.out _ ((BW.out.ext zxt)).s3).mono ?_)
  rintro e w21 ⟨rfl, hx21⟩
  have c0_0 : w21.cell? ⟨wr.heap.size, 0, none⟩ = some (.int .i64 aV) := hx21.has zcv
  have c0_1 : w21.cell? ⟨wr.heap.size, 1, none⟩ = some (.int .i64 aS) := hx21.has zcv
  have c0_2 : w21.cell? ⟨wr.heap.size, 2, none⟩ = some (.int .i64 aP) := hx21.has zcv
  have c0_3 : w21.cell? ⟨wr.heap.size, 3, none⟩ = some (.int .i64 aF) := hx21.has zcv
  have c0_4 : w21.cell? ⟨wr.heap.size, 4, none⟩ = some (.int .u64 aT) := hx21.has zcv
  have c0_5 : w21.cell? ⟨wr.heap.size, 5, none⟩ = some (.int .u64 aH) := hx21.has zcv
  have z21 := hx21.size
  try simp at z21
  have rc0 := zr wr.heap.size w21
  replace BW := Lib.hid (BW.out.ext (Ext.trans zxt hx21))
  have X21 : Hid (Ext wr w21) := Lib.hid (Ext.trans zxt hx21)
  clear h_0 h_1 g_0 g_1 a_3 a_1 a_4 a_5 a_0 a_2 hx21
  go_wp2_with fail
  (with_reducible refine (CB.out _).mono ?_)
  rintro e w22 ⟨rfl, hx22⟩
  replace c0_4 := zh hx22 c0_4
  replace c0_5 := zh hx22 c0_5
  have c1_0 : w22.cell? ⟨w21.heap.size, 0, none⟩ = some (.int .u64 aT) := hx22.has zcv
  have c1_1 : w22.cell? ⟨w21.heap.size, 1, none⟩ = some (.int .u64 aH) := hx22.has zcv
  have z22 := hx22.size
  try simp at z22
  have lt_c0_c1 := zl wr.heap.size w21.heap.size
  replace rc0 := zr wr.heap.size w22
  have rc1 := zr w21.heap.size w22
  replace BW := Lib.hid (BW.out.ext (Ext.trans zxt hx22))
  have X22 : Hid (Ext wr w22) := Lib.hid (Ext.trans zxt hx22)
  clear c0_2 c0_1 c0_0 c0_3 X21 hx22
  go_wp2_with fail
  go_roundg (gk - 1)
  case measure => have := HN.out; omega
  exact ⟨by have := HN.out; omega, num_eq (by rw [show cl.length - (gk - 1) = ix + 1 from by have := HN.out; omega]; have h9 := hst.out; omega), num_eq (by have := HN.out; omega), Lib.hid (BW.out.ext zxt), Lib.hid (Ext.trans XW.out zxt)⟩
 obtain ⟨qT, t0, t1, t2, e1, e2, e3, e4, e5⟩ := cut_in HK.out.1.sc HK.out.1.cls HK.out.2.1 HV.out.2.2.1 HV.out.2.2.2 hl_a hb
 rw [← HCE.out.1] at e1 e2 e3
 rw [← HCE.out.2.2, ← hnn] at e4
 rw [e1, e2, e3] at CG
 have hst := Lib.hid (show (losCs v h p (cl.take (ix + 1))).length = nn + 1 from by rw [e5, hnn])
 have CB := Lib.hid (fun (w' : World) => tBk_at aV aS aP aF v h true hb w')
 have hnl := (List.getElem?_eq_some_iff.1 e4).1
 have hnR : decide ((LL.length : Int) ≤ (nn : Int)) = false := decide_eq_false (by omega)
 have hnR2 : decide (LL.length ≤ nn) = false := decide_eq_false (by omega)
 have hnQ : (nn : Int) < (LL.length : Int) := by omega
 have hnw : IntKind.i64.wrap ((nn : Int) + 1) = (nn : Int) + 1 := IntWalk.i64_in _ (by omega)
 obtain ⟨aD, hD⟩ : ∃ z, z = aT - qT := ⟨_, rfl⟩
 have hwD : IntKind.u64.wrap (aT - qT) = aD := by rw [hD]; exact IntWalk.u64_in _ (by have := waT.2; omega)
 rw [← hD] at e4
 obtain ⟨b3, o3, rfl, hb3, hc3⟩ := BW.out.s5.rec_ lossC_len (show 0 < LL.length from by omega)
 have l_0 := hc3 nn _ e4 0 _ rfl
 have l_1 := hc3 nn _ e4 1 _ rfl
 have l_2 := hc3 nn _ e4 2 _ rfl
 have l_3 := hc3 nn _ e4 3 _ rfl
 have l_4 := hc3 nn _ e4 4 _ rfl
 simp only at l_0 l_1 l_2 l_3 l_4
 rw [Nat.add_zero] at l_0
 rw [← Nat.add_assoc] at l_1 l_2 l_3 l_4
 clear e1 e2 e3 e4 e5 hb hnn hl_a waT hc3 hD t2 t1
 by_cases hq : qT = 0
 ·subst hq
  rw [if_pos rfl, show decide ((0 : Int) < 0) = false from rfl] at CG
  have hwD2 : IntKind.u64.wrap aT = aD := by rw [Int.sub_zero] at hwD; exact hwD
  go_wp2_with fail
  (with_reducible refine (CG.out _ ((BW.out.ext zxt)).s3).mono ?_)
  rintro e w21 ⟨rfl, hx21⟩
  replace l_0 := zh hx21 l_0
  replace l_1 := zh hx21 l_1
  replace l_2 := zh hx21 l_2
  replace l_3 := zh hx21 l_3
  replace l_4 := zh hx21 l_4
  have c0_0 : w21.cell? ⟨wr.heap.size, 0, none⟩ = some (.int .i64 aV) := hx21.has zcv
  have c0_1 : w21.cell? ⟨wr.heap.size, 1, none⟩ = some (.int .i64 aS) := hx21.has zcv
  have c0_2 : w21.cell? ⟨wr.heap.size, 2, none⟩ = some (.int .i64 aP) := hx21.has zcv
  have c0_3 : w21.cell? ⟨wr.heap.size, 3, none⟩ = some (.int .i64 aF) := hx21.has zcv
  have c0_4 : w21.cell? ⟨wr.heap.size, 4, none⟩ = some (.int .u64 aT) := hx21.has zcv
  have z21 := hx21.size
  try simp at z21
  have lt_l_c0 := zl b3 wr.heap.size
  have rl := zr b3 w21
  have rc0 := zr wr.heap.size w21
  replace BW := Lib.hid (BW.out.ext (Ext.trans zxt hx21))
  have X21 : Hid (Ext wr w21) := Lib.hid (Ext.trans zxt hx21)
  clear h_0 h_1 g_0 g_1 a_3 a_1 a_4 a_5 a_0 a_2 hx21
  go_wp2_with fail
  (with_reducible refine (CB.out _).mono ?_)
  rintro e w22 ⟨rfl, hx22⟩
  replace l_0 := zh hx22 l_0
  replace l_1 := zh hx22 l_1
  replace l_2 := zh hx22 l_2
  replace l_3 := zh hx22 l_3
  replace l_4 := zh hx22 l_4
  replace c0_0 := zh hx22 c0_0
  replace c0_1 := zh hx22 c0_1
  replace c0_2 := zh hx22 c0_2
  replace c0_3 := zh hx22 c0_3
  replace c0_4 := zh hx22 c0_4
  have c1_0 : w22.cell? ⟨w21.heap.size, 0, none⟩ = some (.int .u64 0) := hx22.has zcv
  have z22 := hx22.size
  try simp at z22
  have lt_l_c1 := zl b3 w21.heap.size
  have lt_c0_c1 := zl wr.heap.size w21.heap.size
  replace rl := zr b3 w22
  replace rc0 := zr wr.heap.size w22
  have rc1 := zr w21.heap.size w22
  replace BW := Lib.hid (BW.out.ext (Ext.trans zxt hx22))
  have X22 : Hid (Ext wr w22) := Lib.hid (Ext.trans zxt hx22)
  clear X21 hx22
  go_wp2_with fail
  refine wp_region_held_drew (S := fun w' => w'.cell? ⟨wr.heap.size, 0, none⟩ = some (.int .i64 aV) ∧ w'.cell? ⟨wr.heap.size, 1, none⟩ = some (.int .i64 aS) ∧ w'.cell? ⟨wr.heap.size, 2, none⟩ = some (.int .i64 aP) ∧ w'.cell? ⟨wr.heap.size, 3, none⟩ = some (.int .i64 aF) ∧ w'.cell? ⟨wr.heap.size, 4, none⟩ = some (.int .u64 aT) ∧ w'.cell? ⟨w21.heap.size, 0, none⟩ = some (.int .u64 0) ∧ w'.cell? ⟨b3, o3 + nn * 5, none⟩ = some (.int .i64 aV) ∧ w'.cell? ⟨b3, o3 + nn * 5 + 1, none⟩ = some (.int .i64 aS) ∧ w'.cell? ⟨b3, o3 + nn * 5 + 2, none⟩ = some (.int .i64 aP) ∧ w'.cell? ⟨b3, o3 + nn * 5 + 3, none⟩ = some (.int .i64 aF) ∧ w'.cell? ⟨b3, o3 + nn * 5 + 4, none⟩ = some (.int .u64 aD)) (by kernel_rfl) (by first | with_reducible exact ⟨c0_0, c0_1, c0_2, c0_3, c0_4, c1_0, l_0, l_1, l_2, l_3, l_4⟩ | (simp [go_sem, World.cell?_alloc_past, *]; done)) (fun hHeld => ?_)
  refine' zt 0 ?_
  refine' zt 1 ?_
  refine' zt 2 ?_
  refine' zt 3 ?_
  refine' zt 4 ?_
  refine' zt 5 ?_
  refine' zt 6 ?_
  refine' zt 7 ?_
  refine' zt 8 ?_
  refine' zt 9 ?_
  refine' zt 10 ?_
  refine' zt 11 ?_
  refine' zt 12 ?_
  refine' zt 13 ?_
  refine' zt 14 ?_
  refine' zt 15 ?_
  refine' zt 16 ?_
  refine' zt 17 ?_
  refine' zt 18 ?_
  refine' zt 19 ?_
  refine' zt 20 ?_
  refine' zt 21 ?_
  refine' zt 22 ?_
  refine' zt 23 ?_
  refine' zt 24 ?_
  refine' zt 25 ?_
  refine' zt 26 ?_
  refine' zt 27 ?_
  refine' zt 28 ?_
  refine' zt 29 ?_
  refine' zt 30 ?_
  refine' zt 31 ?_
  refine' zt 32 ?_
  refine' zt 33 ?_
  refine' zt 34 ?_
  refine' zt 35 ?_
  refine' zt 36 ?_
  refine' zt 37 ?_
  refine' zs 38 ?_
  refine' zs 39 ?_
  refine' zs 40 ?_
  refine' zs 41 ?_
  refine' zs 42 ?_
  refine' zs 43 ?_
  refine' zt 44 ?_
  refine' zt 45 ?_
  refine wpAnyH_done (by kernel_rfl) ?_ _
  go_wp2_with fail
  go_roundg (gk - 1)
  case measure => have := HN.out; omega
  exact ⟨by have := HN.out; omega, num_eq (by rw [show cl.length - (gk - 1) = ix + 1 from by have := HN.out; omega]; have h9 := hst.out; omega), num_eq (by have := HN.out; omega), Lib.hid (BW.out.ext zxt), Lib.hid (Ext.trans XW.out zxt)⟩
 have hq1 : (0 : Int) < qT := by omega
 rw [if_neg hq, decide_eq_true hq1] at CG
 clear hq t0
 go_wp2_with fail
 (with_reducible refine (CG.out _ ((BW.out.ext zxt)).s3).mono ?_)
 rintro e w21 ⟨rfl, hx21⟩
 replace l_0 := zh hx21 l_0
 replace l_1 := zh hx21 l_1
 replace l_2 := zh hx21 l_2
 replace l_3 := zh hx21 l_3
 replace l_4 := zh hx21 l_4
 have c0_0 : w21.cell? ⟨wr.heap.size, 0, none⟩ = some (.int .i64 aV) := hx21.has zcv
 have c0_1 : w21.cell? ⟨wr.heap.size, 1, none⟩ = some (.int .i64 aS) := hx21.has zcv
 have c0_2 : w21.cell? ⟨wr.heap.size, 2, none⟩ = some (.int .i64 aP) := hx21.has zcv
 have c0_3 : w21.cell? ⟨wr.heap.size, 3, none⟩ = some (.int .i64 aF) := hx21.has zcv
 have c0_4 : w21.cell? ⟨wr.heap.size, 4, none⟩ = some (.int .u64 aT) := hx21.has zcv
 have c0_5 : w21.cell? ⟨wr.heap.size, 5, none⟩ = some (.int .u64 aH) := hx21.has zcv
 have z21 := hx21.size
 try simp at z21
 have lt_l_c0 := zl b3 wr.heap.size
 have rl := zr b3 w21
 have rc0 := zr wr.heap.size w21
 replace BW := Lib.hid (BW.out.ext (Ext.trans zxt hx21))
 have X21 : Hid (Ext wr w21) := Lib.hid (Ext.trans zxt hx21)
 clear h_0 h_1 g_0 g_1 a_3 a_1 a_4 a_5 a_0 a_2 hx21
 go_wp2_with fail
 (with_reducible refine (CB.out _).mono ?_)
 rintro e w22 ⟨rfl, hx22⟩
 replace l_0 := zh hx22 l_0
 replace l_1 := zh hx22 l_1
 replace l_2 := zh hx22 l_2
 replace l_3 := zh hx22 l_3
 replace l_4 := zh hx22 l_4
 replace c0_0 := zh hx22 c0_0
 replace c0_1 := zh hx22 c0_1
 replace c0_2 := zh hx22 c0_2
 replace c0_3 := zh hx22 c0_3
 replace c0_4 := zh hx22 c0_4
 replace c0_5 := zh hx22 c0_5
 have c1_0 : w22.cell? ⟨w21.heap.size, 0, none⟩ = some (.int .u64 qT) := hx22.has zcv
 have c1_1 : w22.cell? ⟨w21.heap.size, 1, none⟩ = some (.int .u64 aH) := hx22.has zcv
 have z22 := hx22.size
 try simp at z22
 have lt_l_c1 := zl b3 w21.heap.size
 have lt_c0_c1 := zl wr.heap.size w21.heap.size
 replace rl := zr b3 w22
 replace rc0 := zr wr.heap.size w22
 have rc1 := zr w21.heap.size w22
 replace BW := Lib.hid (BW.out.ext (Ext.trans zxt hx22))
 have X22 : Hid (Ext wr w22) := Lib.hid (Ext.trans zxt hx22)
 clear X21 hx22
 go_wp2_with fail
 refine wp_region_held_drew (S := fun w' => w'.cell? ⟨wr.heap.size, 0, none⟩ = some (.int .i64 aV) ∧ w'.cell? ⟨wr.heap.size, 1, none⟩ = some (.int .i64 aS) ∧ w'.cell? ⟨wr.heap.size, 2, none⟩ = some (.int .i64 aP) ∧ w'.cell? ⟨wr.heap.size, 3, none⟩ = some (.int .i64 aF) ∧ w'.cell? ⟨wr.heap.size, 4, none⟩ = some (.int .u64 aT) ∧ w'.cell? ⟨wr.heap.size, 5, none⟩ = some (.int .u64 aH) ∧ w'.cell? ⟨w21.heap.size, 0, none⟩ = some (.int .u64 qT) ∧ w'.cell? ⟨w21.heap.size, 1, none⟩ = some (.int .u64 aH) ∧ w'.cell? ⟨b3, o3 + nn * 5, none⟩ = some (.int .i64 aV) ∧ w'.cell? ⟨b3, o3 + nn * 5 + 1, none⟩ = some (.int .i64 aS) ∧ w'.cell? ⟨b3, o3 + nn * 5 + 2, none⟩ = some (.int .i64 aP) ∧ w'.cell? ⟨b3, o3 + nn * 5 + 3, none⟩ = some (.int .i64 aF) ∧ w'.cell? ⟨b3, o3 + nn * 5 + 4, none⟩ = some (.int .u64 aD)) (by kernel_rfl) (by first | with_reducible exact ⟨c0_0, c0_1, c0_2, c0_3, c0_4, c0_5, c1_0, c1_1, l_0, l_1, l_2, l_3, l_4⟩ | (simp [go_sem, World.cell?_alloc_past, *]; done)) (fun hHeld => ?_)
 refine' zt 0 ?_
 refine' zt 1 ?_
 refine' zt 2 ?_
 refine' zt 3 ?_
 refine' zt 4 ?_
 refine' zt 5 ?_
 refine' zt 6 ?_
 refine' zt 7 ?_
 refine' zt 8 ?_
 refine' zt 9 ?_
 refine' zt 10 ?_
 refine' zt 11 ?_
 refine' zt 12 ?_
 refine' zt 13 ?_
 refine' zt 14 ?_
 refine' zt 15 ?_
 refine' zt 16 ?_
 refine' zt 17 ?_
 refine' zt 18 ?_
 refine' zt 19 ?_
 refine' zt 20 ?_
 refine' zt 21 ?_
 refine' zt 22 ?_
 refine' zt 23 ?_
 refine' zt 24 ?_
 refine' zt 25 ?_
 refine' zt 26 ?_
 refine' zt 27 ?_
 refine' zt 28 ?_
 refine' zt 29 ?_
 refine' zt 30 ?_
 refine' zt 31 ?_
 refine' zt 32 ?_
 refine' zt 33 ?_
 refine' zt 34 ?_
 refine' zt 35 ?_
 refine' zt 36 ?_
 refine' zt 37 ?_
 refine' zt 38 ?_
 refine' zt 39 ?_
 refine' zt 40 ?_
 refine' zt 41 ?_
 refine' zt 42 ?_
 refine' zt 43 ?_
 refine' zt 44 ?_
 refine' zt 45 ?_
 refine wpAnyH_done (by kernel_rfl) ?_ _
 go_wp2_with fail
 go_roundg (gk - 1)
 case measure => have := HN.out; omega
 exact ⟨by have := HN.out; omega, num_eq (by rw [show cl.length - (gk - 1) = ix + 1 from by have := HN.out; omega]; have h9 := hst.out; omega), num_eq (by have := HN.out; omega), Lib.hid (BW.out.ext zxt), Lib.hid (Ext.trans XW.out zxt)⟩
theorem HoldingBlames_long (A : Option Addr) (c n : Nat) (x1 x2 x3 : Int) (w : World) (hl : ¬ n ≤ 30) (hs : n ≤ 9223372036854775807) :
  Calls Tryz.prog 7 #[.slice A n c, .int .i64 x1, .int .i64 x2, .int .u64 x3] w fun r w' => r = .returned (.bool true) ∧ Ext w w' := by
 have h0 : (30 : Int) < (n : Int) := by omega
 go_enter Tryz.func7, Tryz.ntmps7
 go_wp2_with fail
 (with_reducible refine (known13_any _).mono ?_)
 rintro e w1 ⟨rfl, hx1⟩
 have z1 := hx1.size
 try simp at z1
 have X1 : Hid (Ext w w1) := Lib.hid (Ext.trans zxt hx1)
 clear hx1 z1
 go_wp2_with fail
 go_ret
 exact ⟨rfl, zxt⟩
theorem HoldingBlames_any (AL : Option Addr) (cL : Nat) (acts : List I9) (x1 : Int) (f1 : Fits .i64 x1) (x2 : Int) (f2 : Fits .i64 x2) (x3 : Int) (f3 : Fits .u64 x3) (w : World) (hL : Sl w 9 AL acts.length cL (acts.flatMap actC)) (fA : ∀ x ∈ acts, FitsA x) (gA : AL = none → cL = 0) :
  Calls Tryz.prog 7 #[.slice AL acts.length cL, .int .i64 x1, .int .i64 x2, .int .u64 x3] w fun r w' => r = .returned (.bool true) ∧ Ext w w' := by
 by_cases hl : acts.length ≤ 30
 ·exact HoldingBlames_main AL cL acts x1 f1 x2 f2 x3 f3 w hL fA hl
 exact HoldingBlames_long AL cL acts.length x1 x2 x3 w hl hL.small
end
end Go.Proofs.YtkinchgjidpjnaaGreat
