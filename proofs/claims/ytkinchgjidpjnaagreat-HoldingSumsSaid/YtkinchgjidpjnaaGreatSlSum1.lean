/- Sum, part 1 of 1: Open, Rec, Rec4, Cod, HoldOpen, HwS. Conditions stand in each lemma. -/
import Derived.WalkKit
import Derived.Deep.QuietTactic
import Derived.Deep.Draws
import Derived.Lib.Hide
import Derived.Laws.OwnMore
import Derived.Laws.AppendOwn
import Derived.OwnWalk
import Derived.RangeFuncBox
import Derived.RangeFuncLeaves
import Derived.Shelf.Abstract
import Derived.OwnWalkIn
import Derived.TacticsInMore
import Derived.LoopNIn
import Derived.LoopIn
import Derived.Maps.AppendAt
import Derived.Test.YtkinchgjidpjnaaGreatRows
import Derived.Deep.Onto
import Derived.ProofKit
import Derived.ChangeOld
import Derived.OpenShut
import Derived.Deep.Slices
import Derived.BigQuiet
import Derived.IntWalk
import Derived.Lib.SliceRun
import Derived.Deep.LoopGhost
import Derived.WalkSpells
import Derived.WalkLawsBesides
import Derived.Lib.SmallJoins
import Derived.Deep.RegionHeld3
import Derived.Test.YtkinchgjidpjnaaGreatShelf
import Derived.Test.YtkinchgjidpjnaaGreatDivNorm
import Derived.Deep.DeepCutAuto
import Derived.Deep.CutBlock
import Derived.Shelf.Spec.BitsCarry
import Derived.Test.YtkinchgjidpjnaaGreatFixRefMath
import Derived.Test.YtkinchgjidpjnaaGreatFixDivideMath
import Derived.Handy
import Derived.ArgAppend
import Derived.Laws.CopyRow
import Derived.Lib.AppendZerosOnto
import Derived.Laws.Externs
import Derived.Lib.Overlaps
import Derived.Shelf.RegionOpenPlain
import Derived.Lib.AppendZeros
import Derived.WalkMore
import Derived.Laws.IdiomCopy
import Derived.Laws.StructEq
import Derived.Laws.BytesArg
import Derived.RangeFuncNested
import Derived.Test.YtkinchgjidpjnaaGreatSlBas6
import Derived.Test.YtkinchgjidpjnaaGreatSlKno2
import Derived.Test.YtkinchgjidpjnaaGreatSlNea3
set_option linter.unusedVariables false
set_option linter.unusedSimpArgs false
namespace Go.Proofs.YtkinchgjidpjnaaGreat
section
open Go.RowKit Go.ChangeShapes Go.WideShapes
theorem zSlSum1_0 {P : Prop} (h : P := by unfold OwnPos; repeat (first | exact HB.out | refine own_set_ne ?_ (fun j hj hh => by have h9 := RB.out j hj; (try simp only [World.size_alloc] at h9); first | omega | (simp at h9; omega) | (simp [go_sem] at h9; omega)) | refine own_keep (base := wo.heap.size) ?_ (Ext.alloc (Ext.refl _) _) | with_reducible refine World.ownsRow.drew ?_)) : P := h
theorem zSlSum1_1 {P : Prop} (h : P := by unfold OwnCls; repeat (first | exact HA.out | refine own_set_ne ?_ (fun j hj hh => by have h9 := RA.out j hj; (try simp only [World.size_alloc] at h9); first | omega | (simp at h9; omega) | (simp [go_sem] at h9; omega)) | refine own_keep (base := wo.heap.size) ?_ (Ext.alloc (Ext.refl _) _) | with_reducible refine World.ownsRow.drew ?_)) : P := h
theorem zSlSum1_2 {P : Prop} (h : P := by unfold OwnLoss; repeat (first | exact HL.out | refine own_set_ne ?_ (fun j hj hh => by have h9 := RL.out j hj; (try simp only [World.size_alloc] at h9); first | omega | (simp at h9; omega) | (simp [go_sem] at h9; omega)) | refine own_keep (base := wo.heap.size) ?_ (Ext.alloc (Ext.refl _) _) | with_reducible refine World.ownsRow.drew ?_)) : P := h
theorem zSlSum1_3 {P : Prop} (h : P := by (first | with_reducible exact ⟨a_0, a_1, a_2, a_3, a_4, a_5, a_6, a_7, a_8, i_0, i_1⟩ | (simp [go_sem, World.cell?_alloc_past, *]; done) | exact ⟨a_0, a_1, a_2, a_3, a_4, a_5, a_6, a_7, a_8, i_0, i_1⟩)) : P := h
theorem zSlSum1_4 {P : Prop} (h : P := by repeat (first | with_reducible exact (Ext.trans XW.out X75.out) | with_reducible refine Ext.drew ?_ | with_reducible refine Ext.drewN ?_ _ | with_reducible refine Ext.alloc ?_ _ | with_reducible refine Ext.setCell ?_ (by first | omega | (simp; done) | (simp; omega)) _)) : P := h
section
variable {H : Type} {enc : TypeId × Value → H} {P : Program} {w : World} {base : Nat} {spare : Nat → Bool} {held : Bool}
/-- a slice that came in, its cells, and how each element reads -/
theorem open_raw {t e : TypeId} {sz fuel n c : Nat} {A : Option Addr} {x : DataW H × List MemPlace} (ht : P.underlying t = some (.slice e)) (hsz : P.cellsOf e = sz) (hpos : 0 < sz)
    (h : DataW.trod enc P w base spare held fuel t [.slice A n c] = some x) :
    ∃ xs : List Value, Sl w sz A n c xs ∧ ∀ i, i < n → ∃ m y, DataW.trod enc P w base spare held m e ((xs.drop (i * sz)).take sz) = some y := by
  rcases Go.Deep.open_slice ht h with ⟨h0, _⟩ | ⟨a, len, cap, m, n', D, Pl, hcs, _, hl, hm, hmm, _, hi⟩
  · simp at h0
    obtain ⟨rfl, rfl, rfl⟩ := h0
    exact ⟨[], Sl.nil _ _, fun i hi => absurd hi (by omega)⟩
  · simp at hcs
    obtain ⟨rfl, rfl, rfl⟩ := hcs
    subst hsz
    have hnm : n ≤ m := by rw [hmm]; split <;> omega
    -- the cells, one by one
    have hcell : ∀ i, i < n → ∀ j, j < P.cellsOf e → ∃ v, w.cell? (a.add (i * P.cellsOf e + j)) = some v := by
      intro i hin j hj
      obtain ⟨cs', hc, ht'⟩ := hi i (by omega)
      obtain ⟨_, hcl, hat⟩ := World.cells?_some hc
      refine ⟨cs'[j]'(by omega), ?_⟩
      have := hat j hj
      rw [Go.Deep.add_add] at this
      rw [this, List.getElem?_eq_getElem (by omega)]
    obtain ⟨b, o, spot⟩ := a
    rcases Nat.eq_zero_or_pos n with hn0 | hnp
    · subst hn0
      exact ⟨[], ⟨by simp, by omega, hm, fun h => absurd h (by omega)⟩, fun i hi => absurd hi (by omega)⟩
    · have hspot : spot = none := by
        obtain ⟨v, hv⟩ := hcell 0 hnp 0 hpos
        simpa [Addr.add] using World.cell?_spot hv
      subst hspot
      let f : Nat → Value := fun j => (w.cell? ⟨b, o + j, none⟩).getD undef
      have hf : ∀ j, j < n * P.cellsOf e → w.cell? ⟨b, o + j, none⟩ = some (f j) := by
        intro j hj
        have h1 : j / P.cellsOf e < n := by rw [Nat.div_lt_iff_lt_mul hpos]; exact hj
        obtain ⟨v, hv⟩ := hcell (j / P.cellsOf e) h1 (j % P.cellsOf e) (Nat.mod_lt _ hpos)
        rw [Nat.div_add_mod', addr_add] at hv
        show _ = some ((w.cell? ⟨b, o + j, none⟩).getD undef)
        rw [hv]; rfl
      have hb : b < w.heap.size := by
        have h1 := hf 0 (by exact Nat.mul_pos hnp hpos)
        unfold World.cell? at h1
        rcases hx : w.heap[b]? with _ | ob
        · simp [hx] at h1
        · exact (Array.getElem?_eq_some_iff.1 hx).1
      refine ⟨(List.range (n * P.cellsOf e)).map f, ⟨by simp, by omega, hm, fun _ => ⟨b, o, rfl, hb, fun j u hu => ?_⟩⟩, fun i hin => ?_⟩
      · rw [List.getElem?_map] at hu
        rcases Nat.lt_or_ge j (n * P.cellsOf e) with hj | hj
        · rw [List.getElem?_range hj] at hu
          simp at hu
          rw [hf j hj, hu]
        · rw [List.getElem?_eq_none (by simpa using hj)] at hu
          simp at hu
      · obtain ⟨cs', hc, ht'⟩ := hi i (by omega)
        obtain ⟨_, hcl, hat⟩ := World.cells?_some hc
        have e1 : (((List.range (n * P.cellsOf e)).map f).drop (i * P.cellsOf e)).take (P.cellsOf e) = cs' := by
          apply List.ext_getElem?
          intro j
          rw [List.getElem?_take]
          have hle : (i + 1) * P.cellsOf e ≤ n * P.cellsOf e := Nat.mul_le_mul_right _ hin
          rw [Nat.add_mul, Nat.one_mul] at hle
          split
          · rename_i hj
            rw [List.getElem?_drop, List.getElem?_map, List.getElem?_range (by omega)]
            have h2 := hat j hj
            rw [Go.Deep.add_add, addr_add] at h2
            rw [← h2, hf _ (by omega)]
            rfl
          · rename_i hj
            rw [List.getElem?_eq_none (by omega)]
        exact ⟨n', (D i, Pl i), by rw [e1]; exact ht'⟩
end
end
section
open Go.RowKit Go.ChangeShapes Go.WideShapes Go.Deep Go.Joins
theorem chunks {α : Type} {f : α → List Value} {sz : Nat} (hpos : 0 < sz) {Good : α → Prop} : ∀ (n : Nat) (xs : List Value), xs.length = n * sz →
    (∀ i, i < n → ∃ x, (xs.drop (i * sz)).take sz = f x ∧ Good x) → ∃ l : List α, l.length = n ∧ l.flatMap f = xs ∧ ∀ x ∈ l, Good x
  | 0, xs, hl, _ => ⟨[], rfl, by rw [Nat.zero_mul] at hl; rw [List.eq_nil_of_length_eq_zero hl]; rfl, by simp⟩
  | n + 1, xs, hl, h => by
    obtain ⟨x, hx, gx⟩ := h 0 (by omega)
    rw [Nat.zero_mul, List.drop_zero] at hx
    obtain ⟨l, h1, h2, h3⟩ := chunks hpos n (xs.drop sz) (by rw [List.length_drop, hl, Nat.add_mul, Nat.one_mul]; omega) fun i hi => by
      obtain ⟨y, hy, gy⟩ := h (i + 1) (by omega)
      exact ⟨y, by rw [List.drop_drop]; rw [Nat.add_mul, Nat.one_mul, Nat.add_comm] at hy; exact hy, gy⟩
    exact ⟨x :: l, by simp [h1], by rw [List.flatMap_cons, h2, ← hx, List.take_append_drop], fun z hz => by
      rcases List.mem_cons.1 hz with rfl | hz
      · exact gx
      · exact h3 z hz⟩

section
variable {H : Type} {enc : TypeId × Value → H} {P : Program} {w : World} {base : Nat} {spare : Nat → Bool} {held : Bool}
/-- a slice of records that came in -/
theorem open_rec {α : Type} {f : α → List Value} {Good : α → Prop} {t e : TypeId} {sz n c : Nat} {A : Option Addr} {d : DataW H} {p : List MemPlace} (ht : P.underlying t = some (.slice e)) (hc : P.cellsOf e = sz) (hpos : 0 < sz)
    (hel : ∀ cs m y, DataW.trod enc P w base spare held m e cs = some y → cs.length = sz → ∃ x : α, cs = f x ∧ Good x)
    (h : DataW.Trod enc P w base spare held t (.slice A n c) d p) : ∃ l : List α, Sl w sz A n c (l.flatMap f) ∧ l.length = n ∧ ∀ x ∈ l, Good x := by
  obtain ⟨fuel, hf⟩ := h
  obtain ⟨xs, hs, hr⟩ := open_raw ht hc hpos (by simpa [Value.cells] using hf)
  have hlen := hs.len
  obtain ⟨l, h1, h2, h3⟩ := chunks (f := f) (Good := Good) hpos n xs hlen fun i hi => by
    obtain ⟨m, y, hy⟩ := hr i hi
    have hle : (i + 1) * sz ≤ n * sz := Nat.mul_le_mul_right _ hi
    rw [Nat.add_mul, Nat.one_mul] at hle
    exact hel _ m y hy (by rw [List.length_take, List.length_drop]; omega)
  exact ⟨l, by rw [h2]; exact hs, h1, h3⟩
end
end
section
open Go.RowKit Go.ChangeShapes Go.WideShapes Go.Deep Go.Joins
section
variable {H : Type} {enc : TypeId × Value → H} {P : Program} {w : World} {base : Nat} {spare : Nat → Bool} {held : Bool}
/-- a record of four numbers -/
theorem rec4 {t : TypeId} {k0 k1 k2 k3 : IntKind} {f0 f1 f2 f3 : Field} {cs : List Value} {m : Nat} {y : DataW H × List MemPlace} (ht : P.underlying t = some (.struct #[f0, f1, f2, f3])) (hone : oneCellFields P #[f0, f1, f2, f3] = true)
    (h0 : P.underlying f0.type = some (.int k0)) (h1 : P.underlying f1.type = some (.int k1)) (h2 : P.underlying f2.type = some (.int k2)) (h3 : P.underlying f3.type = some (.int k3))
    (h : DataW.trod enc P w base spare held m t cs = some y) (hl : cs.length = 4) : ∃ x : Int × Int × Int × Int, cs = [.int k0 x.1, .int k1 x.2.1, .int k2 x.2.2.1, .int k3 x.2.2.2] ∧ Fits k0 x.1 ∧ Fits k1 x.2.1 ∧ Fits k2 x.2.2.1 ∧ Fits k3 x.2.2.2 := by
  obtain ⟨y0, y1, y2, y3, m', _, _, g0, g1, g2, g3⟩ := trod_struct4 ht h
  obtain ⟨o0, c0⟩ := hone_of hone 0 f0 rfl
  obtain ⟨o1, c1⟩ := hone_of hone 1 f1 rfl
  obtain ⟨o2, c2⟩ := hone_of hone 2 f2 rfl
  obtain ⟨o3, c3⟩ := hone_of hone 3 f3 rfl
  match cs, hl with
  | [v0, v1, v2, v3], _ =>
    rw [o0, c0] at g0
    rw [o1, c1] at g1
    rw [o2, c2] at g2
    rw [o3, c3] at g3
    obtain ⟨a, ha, _, wa⟩ := DataW.trod_int h0 g0
    obtain ⟨b, hb, _, wb⟩ := DataW.trod_int h1 g1
    obtain ⟨c, hc, _, wc⟩ := DataW.trod_int h2 g2
    obtain ⟨d, hd, _, wd⟩ := DataW.trod_int h3 g3
    simp at ha hb hc hd
    subst ha; subst hb; subst hc; subst hd
    exact ⟨(a, b, c, d), rfl, wa, wb, wc, wd⟩
end
end
section
open Go.RowKit
theorem Off.wf {w w' : World} {g o q : Nat} (h : Off w g o q) (hx : WF g o w w') : Off w' g o q :=
  ⟨by have := h.1; have := hx.but.size; omega, by have := h.2.1; have := hx.but.size; omega, fun hs => h.2.2 (hx.row q h.2.1 hs)⟩
end
section
open Go.RowKit Go.ChangeShapes Go.WideShapes Go.Deep Go.Joins
section
variable {H : Type} {enc : TypeId × Value → H} {w : World} {base : Nat} {spare : Nat → Bool} {held : Bool}
theorem none_capH {P : Program} {t e : TypeId} {n c : Nat} {A : Option Addr} {x : DataW H × List MemPlace} {fuel : Nat} (ht : P.underlying t = some (.slice e)) (hf : DataW.trod enc P w base spare held fuel t [.slice A n c] = some x) : A = none → c = 0 := by
  intro hA
  subst hA
  rcases Go.Deep.open_slice ht hf with ⟨h0, _⟩ | ⟨a, len, cap, m, n', D, Pl, hcs, _⟩
  · simp at h0; exact h0.2
  · simp at hcs
theorem word_fitsH {x : Int} (h : Fits .u64 x) : Word x := by
  unfold Fits at h
  simp [Lit.wf, IntKind.min, IntKind.max, IntKind.bits, IntKind.signed] at h
  unfold Word
  omega
set_option maxRecDepth 100000 in
theorem act_rec {cs : List Value} {m : Nat} {y : DataW H × List MemPlace} (h : DataW.trod enc Tryz.prog w base spare held m 39 cs = some y) (hl : cs.length = 9) : ∃ x : Int × Int × Int × Int × Int × Int × Int × Int × Int, cs = actC x ∧ FitsA x := by
  obtain ⟨xs, n, _, rfl, _, hlen, hf⟩ := DataW.trod_struct Tryz.underlying39 h
  have ci : Tryz.prog.cellsOf 3 = 1 := by kernel_rfl
  have cu : Tryz.prog.cellsOf 32 = 1 := by kernel_rfl
  have ct : Tryz.prog.cellsOf 37 = 4 := by kernel_rfl
  have g0 := hf 0 _ rfl
  have g1 := hf 1 _ rfl
  have g2 := hf 2 _ rfl
  have g3 := hf 3 _ rfl
  have g4 := hf 4 _ rfl
  have g5 := hf 5 _ rfl
  match cs, hl with
  | [v0, v1, v2, v3, v4, v5, v6, v7, v8], _ =>
    match xs, hlen with
    | [y0, y1, y2, y3, y4, y5], _ =>
      simp [ci, cu, ct] at g0 g1 g2 g3 g4 g5
      obtain ⟨a, ha, _, wa⟩ := DataW.trod_int Tryz.underlying3 g0
      obtain ⟨o, ho, _, wo⟩ := DataW.trod_int Tryz.underlying3 g1
      obtain ⟨b, hb, w1, w2, w3, w4⟩ := rec4 (k0 := .i64) (k1 := .i64) (k2 := .i64) (k3 := .i64) Tryz.underlying37 (by kernel_rfl) Tryz.underlying3 Tryz.underlying3 Tryz.underlying3 Tryz.underlying3 g2 rfl
      obtain ⟨c, hc, _, wc⟩ := DataW.trod_int Tryz.underlying3 g3
      obtain ⟨d, hd, _, wd⟩ := DataW.trod_int Tryz.underlying3 g4
      obtain ⟨e, he, _, we⟩ := DataW.trod_int Tryz.underlying32 g5
      simp at ha ho hb hc hd he
      obtain ⟨rfl, rfl, rfl, rfl⟩ := hb
      subst ha; subst ho; subst hc; subst hd; subst he
      exact ⟨(a, o, b.1, b.2.1, b.2.2.1, b.2.2.2, c, d, e), rfl, wa, wo, w1, w2, w3, w4, wc, wd, word_fitsH we⟩
/-- acts that came in -/
theorem open_hacts {n c : Nat} {A : Option Addr} {d : DataW H} {p : List MemPlace}
    (h : DataW.Trod enc Tryz.prog w base spare held 26 (.slice A n c) d p) : ∃ l : List (Int × Int × Int × Int × Int × Int × Int × Int × Int), n = l.length ∧ Sl w 9 A l.length c (l.flatMap actC) ∧ (∀ x ∈ l, FitsA x) ∧ (A = none → c = 0) := by
  have h' := h
  obtain ⟨fuel, hf⟩ := h'
  obtain ⟨l, h1, h2, h3⟩ := open_rec (f := actC) (sz := 9) (Good := FitsA) Tryz.underlying26 (by kernel_rfl) (by decide) (fun cs m y h hl => act_rec h hl) h
  subst h2
  exact ⟨l, rfl, h1, h3, none_capH Tryz.underlying26 (show DataW.trod enc Tryz.prog w base spare held fuel 26 [.slice A l.length c] = some (d, p) by simpa [Value.cells] using hf)⟩
end
end
section
open Go.RowKit Go.ChangeShapes Go.WideShapes Go.Deep Go.Joins
/-- the losses that an act makes -/
theorem doeV_loss {cl ps C P' : List (Int × Int × Int × Int × Int × Int)} {yk yo yV yS yP yQ yv yh yn N E : Int} {L : List (Int × Int × Int × Int × Int)} (hw : ∀ x ∈ cl, WdC x) (hw2 : ∀ x ∈ ps, WdP x) (hwn : Word yn) (hD : (C, P', N, L, E) = doeV cl ps yk yo yV yS yP yQ yv yh yn) : (∀ x ∈ L, 0 ≤ x.2.2.2.2) ∧ losN L ≤ 4611686018427387904 ∧ L.length ≤ cl.length := by
  by_cases hq : yk = 2
  · have e : doeV cl ps yk yo yV yS yP yQ yv yh yn = _ := (if_neg (by omega)).trans ((if_neg (by omega)).trans (if_pos hq))
    rw [e] at hD
    simp only [Prod.mk.injEq] at hD
    rw [hD.2.2.2.1]
    by_cases hz : hcutE cl ps yv yh yn = 0
    · rw [hcutV_ok hz]
      simp only
      obtain ⟨hk, _⟩ := cut_HOk hw hw2 hwn hz
      have p1 : yn ≤ 1000000000 := by
        unfold hcutE at hz
        rw [if_neg (by simpa using (chkH_iff cl ps).2 hk)] at hz
        split at hz <;> omega
      have hPs : ∀ c ∈ cl, PoolOk (toC c) (shC c) := fun c hc => good_pool (hk.cls c hc) (hw c hc)
      have hN := losN_nn (v := yv) (h := yh) hPs hwn.1 p1
      refine ⟨fun x hx => ?_, Int.le_trans hN.2 hk.tot, List.length_filterMap_le ..⟩
      obtain ⟨c, hc, hcx⟩ := List.mem_filterMap.1 hx
      unfold losC at hcx
      split at hcx
      · rw [← Option.some.inj hcx]
        exact (cut_ok (hPs c hc) hwn.1 p1).2.1
      · cases hcx
    · rw [hcutV_err rfl hz]
      exact ⟨fun x hx => (by cases hx), by simp [losN, addF], Nat.zero_le _⟩
  · have hL : L = [] := by
      by_cases h0 : yk = 0
      · have e : doeV cl ps yk yo yV yS yP yQ yv yh yn = _ := if_pos h0
        rw [e] at hD
        simp only [Prod.mk.injEq] at hD
        exact hD.2.2.2.1
      · by_cases h1 : yk = 1
        · have e : doeV cl ps yk yo yV yS yP yQ yv yh yn = _ := (if_neg h0).trans (if_pos h1)
          rw [e] at hD
          simp only [Prod.mk.injEq] at hD
          exact hD.2.2.2.1
        · have e : doeV cl ps yk yo yV yS yP yQ yv yh yn = _ := (if_neg h0).trans ((if_neg h1).trans (if_neg hq))
          rw [e] at hD
          simp only [Prod.mk.injEq] at hD
          exact hD.2.2.2.1
    subst hL
    exact ⟨fun x hx => (by cases hx), by simp [losN, addF], Nat.zero_le _⟩
theorem losN_take {L : List (Int × Int × Int × Int × Int)} (h : ∀ x ∈ L, 0 ≤ x.2.2.2.2) (k : Nat) : 0 ≤ losN (L.take k) ∧ losN (L.take k) ≤ losN L := by
  unfold losN
  exact ⟨addF_nn (fun y hy => h y (List.mem_of_mem_take hy)), addF_le h k⟩
set_option maxRecDepth 100000 in
set_option maxHeartbeats 4000000 in
theorem held13_any (w : World) : Calls Tryz.prog 46 #[.int .i64 0, .bool true] w fun r w' => r = .returned (.int .i64 0) ∧ Ext w w' := by
  go_enter Tryz.func46, Tryz.ntmps46
  go_wp2_with fail
  go_ret
  exact ⟨rfl, zxt⟩
/-- behind near: the act -/
def SumsCut (w0 wc : World) (q : Value) : Prop := ∃ (qx : Nat) (yk yo yV yS yP yQ yv yh yn : Int), q = .pointer (some ⟨qx, 0, none⟩) ∧ wc.cell? ⟨qx, 0, none⟩ = some (.int .i64 yk) ∧ wc.cell? ⟨qx, 1, none⟩ = some (.int .i64 yo) ∧ wc.cell? ⟨qx, 2, none⟩ = some (.int .i64 yV) ∧ wc.cell? ⟨qx, 3, none⟩ = some (.int .i64 yS) ∧ wc.cell? ⟨qx, 4, none⟩ = some (.int .i64 yP) ∧ wc.cell? ⟨qx, 5, none⟩ = some (.int .i64 yQ) ∧ wc.cell? ⟨qx, 6, none⟩ = some (.int .i64 yv) ∧ wc.cell? ⟨qx, 7, none⟩ = some (.int .i64 yh) ∧ wc.cell? ⟨qx, 8, none⟩ = some (.int .u64 yn) ∧ NearA yk yo yV yS yP yQ yv yh yn ∧ w0.heap.size ≤ qx ∧ qx < wc.heap.size ∧ Ext w0 wc
set_option maxRecDepth 100000 in
set_option maxHeartbeats 16000000 in
theorem HoldingSums_any (AL : Option Addr) (cL : Nat) (acts : List (Int × Int × Int × Int × Int × Int × Int × Int × Int)) (w : World) (hL : Sl w 9 AL acts.length cL (acts.flatMap actC)) (fA : ∀ x ∈ acts, FitsA x) (gA : AL = none → cL = 0) :
    Calls Tryz.prog 6 #[.slice AL acts.length cL] w fun r w' => r = .returned (.bool true) ∧ Ext w w' := by
  have HL_ := Lib.hid hL
  have HF := Lib.hid fA
  clear hL fA gA
  go_enter Tryz.func6, Tryz.ntmps6
  go_wp2_with fail
  (with_reducible refine (known13_any _).mono ?_)
  rintro e w1 ⟨rfl, hx1⟩
  have z1 := hx1.size
  try simp at z1
  have X1 : Hid (Ext w w1) := Lib.hid (Ext.trans zxt hx1)
  clear hx1
  by_cases q20 : 30 < ((acts.length : Nat) : Int)
  · have q20b : decide (30 < ((acts.length : Nat) : Int)) = true := decide_eq_true q20
    go_wp2_with fail
    refine bodyPost_ret (v := .bool true) (by simp [results, Tryz.results6, go_sem, World.cell?_alloc_past]; try rfl) rfl ⟨rfl, ?_⟩
    exact zxt
  · have q20b : decide (30 < ((acts.length : Nat) : Int)) = false := decide_eq_false q20
    go_wp2_with fail
    obtain ⟨QI, hQ⟩ : ∃ q, q = w1.heap.size := ⟨_, rfl⟩
    rw [← hQ]
    have hQw : w.heap.size ≤ QI := by omega
    go_loopg [5] acts.length (fun gh i wx => gh ≤ acts.length ∧ i = .int .i64 ((acts.length - gh : Nat) : Int) ∧ ∃ (CC PP : List (Int × Int × Int × Int × Int × Int)) (B B2 : Option Addr) (d d2 : Nat), Hid (Bk wx QI (.slice B CC.length d) (.slice B2 PP.length d2)) ∧ (B = none → d = 0) ∧ (B2 = none → d2 = 0) ∧ Hid (OwnCls wx w.heap.size (.slice B CC.length d) CC.length CC) ∧ Hid (OwnPos wx w.heap.size (.slice B2 PP.length d2) PP.length PP) ∧ Hid (HOk CC PP ∧ (∀ x ∈ CC, WdC x) ∧ (∀ x ∈ PP, WdP x)) ∧ CC.length ≤ (acts.length - gh) ∧ PP.length ≤ (acts.length - gh) ∧ Hid (∀ j, (Value.slice B CC.length d).ownBlock = some j → ¬ j = QI) ∧ Hid (∀ j, (Value.slice B2 PP.length d2).ownBlock = some j → ¬ j = QI) ∧ Hid (Ext w wx))
    case atStart =>
      subst hQ
      exact ⟨Nat.le_refl _, by simp, [], [], none, none, 0, 0, Lib.hid (show Bk _ _ (.slice none 0 0) (.slice none 0 0) from ⟨zcv, zcv, zcv, zcv⟩), fun _ => rfl, fun _ => rfl, Lib.hid (OwnCls.nil _ _), Lib.hid (OwnPos.nil _ _), Lib.hid ⟨HOk.nil, fun x hx => (by cases hx), fun x hx => (by cases hx)⟩, Nat.zero_le _, Nat.zero_le _, Lib.hid (fun j hj => by cases hj), Lib.hid (fun j hj => by cases hj), Lib.hid zxt⟩
    case round =>
      subst hQ
      obtain ⟨hg, hi, CC, PP, B, B2, d, d2, BI, nB, nB2, HO, HP, HK_, hlC, hlP, NQ, NQ2, XW⟩ := hrel
      obtain ⟨wo, hwo⟩ : ∃ x, x = wr := ⟨_, rfl⟩
      subst hwo
      obtain ⟨gO, hgO⟩ : ∃ x, x = gk := ⟨_, rfl⟩
      subst hgO
      have i_0 := BI.out.c0
      have i_1 := BI.out.c1
      have i_0f := BI.out.f0
      have i_1f := BI.out.f1
      have hli := cell_lt i_0
      have hzw := XW.out.size
      have hni : ¬ w1.heap.size = wo.heap.size := by omega
      have RI := Lib.hid (own_rng HO.out)
      have RJ := Lib.hid (own_rng HP.out)
      obtain ⟨ix, hix⟩ : ∃ k, k = acts.length - gO := ⟨_, rfl⟩
      rw [← hix] at hi hlC hlP
      subst hi
      clear BI
      by_cases hz : gO = 0
      · have hkn : ¬ (ix : Int) < ((acts.length : Nat) : Int) := by omega
        clear hg hix hz
        go_wp2_with fail
        refine bodyPost_ret (v := .bool true) (by simp [results, Tryz.results6, go_sem, World.cell?_alloc_past, i_0, i_0f, i_1, i_1f, hli, hni]; try rfl) rfl ⟨rfl, ?_⟩
        exact zxt
      · have hkn : (ix : Int) < ((acts.length : Nat) : Int) := by omega
        have hkl : ix < acts.length := by omega
        have hl1 : CC.length < 1000 := by omega
        have hl2 : PP.length < 1000 := by omega
        obtain ⟨b9, o9, rfl, hb9, hc9⟩ := HL_.out.rec_ actC_len (show 0 < acts.length from by omega)
        obtain ⟨y9, hy9⟩ : ∃ x, acts[ix]? = some x := ⟨_, List.getElem?_eq_getElem hkl⟩
        have a_0 := XW.out.has (hc9 ix y9 hy9 0 _ rfl)
        have a_1 := XW.out.has (hc9 ix y9 hy9 1 _ rfl)
        have a_2 := XW.out.has (hc9 ix y9 hy9 2 _ rfl)
        have a_3 := XW.out.has (hc9 ix y9 hy9 3 _ rfl)
        have a_4 := XW.out.has (hc9 ix y9 hy9 4 _ rfl)
        have a_5 := XW.out.has (hc9 ix y9 hy9 5 _ rfl)
        have a_6 := XW.out.has (hc9 ix y9 hy9 6 _ rfl)
        have a_7 := XW.out.has (hc9 ix y9 hy9 7 _ rfl)
        have a_8 := XW.out.has (hc9 ix y9 hy9 8 _ rfl)
        have hf9 := HF.out y9 (List.mem_of_getElem? hy9)
        obtain ⟨aw, ao, aV, aS, aP, aQ, av, ah, an⟩ := y9
        simp only at a_0 a_1 a_2 a_3 a_4 a_5 a_6 a_7 a_8
        rw [Nat.add_zero] at a_0
        rw [← Nat.add_assoc] at a_1 a_2 a_3 a_4 a_5 a_6 a_7 a_8
        have hb9s : ¬ b9 = wo.heap.size := by omega
        have hb9w : b9 < wo.heap.size := by omega
        have SLs := Lib.hid (fun (w' : World) (hx : Ext wo w') => (And.intro ((OwnCls.sl HO.out).ext hx) ((OwnPos.sl HP.out).ext hx)))
        have CNA := Lib.hid (fun (w' : World) (hx : Ext wo w') => near13_any CC.length d PP.length d2 B B2 CC PP aw ao aV aS aP aQ av ah an w' hf9 (SLs.out w' hx).1 (SLs.out w' hx).2 (by omega) (by omega) HK_.out.2.1 HK_.out.2.2 HK_.out.1)
        have hchk : chkH CC PP = 0 := (chkH_iff CC PP).2 HK_.out.1
        have CAL := Lib.hid (fun (w' : World) (hx : Ext wo w') => hAll_any CC.length d PP.length d2 B B2 CC PP w' (SLs.out w' hx).1 (SLs.out w' hx).2 (by omega) (by omega) HK_.out.2.1 HK_.out.2.2)
        unfold allT at CAL
        rw [hchk, if_pos rfl] at CAL
        obtain ⟨TC, hTC⟩ : ∃ t, t = totC CC := ⟨_, rfl⟩
        rw [← hTC] at CAL
        have HT := Lib.hid (And.intro hTC (show 0 ≤ TC ∧ TC ≤ 4611686018427387904 from by rw [hTC]; exact ⟨addF_nn (fun y hy => (HK_.out.2.1 y hy).1.1), HK_.out.1.tot⟩))
        have HK := Lib.hid (And.intro hix (And.intro hg hz))
        clear hf9 hc9 hkl hy9 hix hg hz hchk hTC
        go_wp2_with fail
        go_cut [6] (fun q wx => SumsCut wo wx q)
        case first =>
          go_wp2_with fail
          refine wp_region_held_drew (S := fun w' => w'.cell? ⟨b9, o9 + ix * 9, none⟩ = some (.int .i64 aw) ∧ w'.cell? ⟨b9, o9 + ix * 9 + 1, none⟩ = some (.int .i64 ao) ∧ w'.cell? ⟨b9, o9 + ix * 9 + 2, none⟩ = some (.int .i64 aV) ∧ w'.cell? ⟨b9, o9 + ix * 9 + 3, none⟩ = some (.int .i64 aS) ∧ w'.cell? ⟨b9, o9 + ix * 9 + 4, none⟩ = some (.int .i64 aP) ∧ w'.cell? ⟨b9, o9 + ix * 9 + 5, none⟩ = some (.int .i64 aQ) ∧ w'.cell? ⟨b9, o9 + ix * 9 + 6, none⟩ = some (.int .i64 av) ∧ w'.cell? ⟨b9, o9 + ix * 9 + 7, none⟩ = some (.int .i64 ah) ∧ w'.cell? ⟨b9, o9 + ix * 9 + 8, none⟩ = some (.int .u64 an) ∧ w'.cell? ⟨w1.heap.size, 0, none⟩ = some (.slice B CC.length d) ∧ w'.cell? ⟨w1.heap.size, 1, none⟩ = some (.slice B2 PP.length d2)) (by kernel_rfl) (by first | with_reducible exact ⟨a_0, a_1, a_2, a_3, a_4, a_5, a_6, a_7, a_8, i_0, i_1⟩ | (simp [go_sem, World.cell?_alloc_past, *]; done) | exact ⟨a_0, a_1, a_2, a_3, a_4, a_5, a_6, a_7, a_8, i_0, i_1⟩) (fun hHeld => ?_)
          refine' zt 0 ?_
          refine' zt 1 ?_
          refine' zt 2 ?_
          refine' zt 3 ?_
          refine' zt 4 ?_
          refine' next2_in 5 6 rfl rfl (by kernel_rfl) (by rfl) (by rfl) (fun K hK => ?_) (fun K hK => ?_)
          · go_simp
            (with_reducible refine (CNA.out _ zxt).mono ?_)
            rintro e w11 ⟨⟨yk, yo, yV, yS, yP, yQ, yv, yh, yn, rfl, hN⟩, hx11⟩
            replace i_0 : w11.cell? ⟨w1.heap.size, 0, none⟩ = some (.slice B CC.length d) := hx11.has zcv
            replace i_1 : w11.cell? ⟨w1.heap.size, 1, none⟩ = some (.slice B2 PP.length d2) := hx11.has zcv
            replace a_0 : w11.cell? ⟨b9, o9 + ix * 9, none⟩ = some (.int .i64 aw) := hx11.has zcv
            replace a_1 : w11.cell? ⟨b9, o9 + ix * 9 + 1, none⟩ = some (.int .i64 ao) := hx11.has zcv
            replace a_2 : w11.cell? ⟨b9, o9 + ix * 9 + 2, none⟩ = some (.int .i64 aV) := hx11.has zcv
            replace a_3 : w11.cell? ⟨b9, o9 + ix * 9 + 3, none⟩ = some (.int .i64 aS) := hx11.has zcv
            replace a_4 : w11.cell? ⟨b9, o9 + ix * 9 + 4, none⟩ = some (.int .i64 aP) := hx11.has zcv
            replace a_5 : w11.cell? ⟨b9, o9 + ix * 9 + 5, none⟩ = some (.int .i64 aQ) := hx11.has zcv
            replace a_6 : w11.cell? ⟨b9, o9 + ix * 9 + 6, none⟩ = some (.int .i64 av) := hx11.has zcv
            replace a_7 : w11.cell? ⟨b9, o9 + ix * 9 + 7, none⟩ = some (.int .i64 ah) := hx11.has zcv
            replace a_8 : w11.cell? ⟨b9, o9 + ix * 9 + 8, none⟩ = some (.int .u64 an) := hx11.has zcv
            have z11 := hx11.size
            try simp at z11
            have ne_i_a : ¬ w1.heap.size = b9 := by omega
            have ne_a_i : ¬ b9 = w1.heap.size := by omega
            have zq := zrc (show w1.heap.size < w11.heap.size from by omega)
            obtain ⟨ri, ria, rib, ric, rin⟩ := zq
            have zq := zrc (show b9 < w11.heap.size from by omega)
            obtain ⟨ra, raa, rab, rac, ran⟩ := zq
            have X11 : Hid (Ext wo w11) := Lib.hid (Ext.trans zxt hx11)
            clear i_0f i_1f hx11
            refine hK.out _ _ zSlSum1_3 (fun hHeld => ?_); clear hK K; try simp only [Act.put, List.setIfInBounds_toArray, List.set_cons_zero, List.set_cons_succ]
            refine' zn 6 (fun K hK => ?_)
            go_simp
            refine hK.out _ _ zSlSum1_3 (fun hHeld => ?_); clear hK K; try simp only [Act.put, List.setIfInBounds_toArray, List.set_cons_zero, List.set_cons_succ]
            refine' zn 7 (fun K hK => ?_)
            go_simp
            refine hK.out _ _ zSlSum1_3 (fun hHeld => ?_); clear hK K; try simp only [Act.put, List.setIfInBounds_toArray, List.set_cons_zero, List.set_cons_succ]
            refine wpAnyH_done (by kernel_rfl) ?_ _
            go_wp2_with fail
            go_meet
            exact ⟨_, yk, yo, yV, yS, yP, yQ, yv, yh, yn, rfl, zcv, zcv, zcv, zcv, zcv, zcv, zcv, zcv, zcv, hN, by first | omega | (simp; done) | (simp; omega), by first | omega | (simp; done) | (simp; omega), zxt⟩
          · go_simp
            refine hK.out _ _ zSlSum1_3 (fun hHeld => ?_); clear hK K; try simp only [Act.put, List.setIfInBounds_toArray, List.set_cons_zero, List.set_cons_succ]
            refine' zn 5 (fun K hK => ?_)
            go_simp
            (with_reducible refine (CNA.out _ zxt).mono ?_)
            rintro e w11 ⟨⟨yk, yo, yV, yS, yP, yQ, yv, yh, yn, rfl, hN⟩, hx11⟩
            replace i_0 : w11.cell? ⟨w1.heap.size, 0, none⟩ = some (.slice B CC.length d) := hx11.has zcv
            replace i_1 : w11.cell? ⟨w1.heap.size, 1, none⟩ = some (.slice B2 PP.length d2) := hx11.has zcv
            replace a_0 : w11.cell? ⟨b9, o9 + ix * 9, none⟩ = some (.int .i64 aw) := hx11.has zcv
            replace a_1 : w11.cell? ⟨b9, o9 + ix * 9 + 1, none⟩ = some (.int .i64 ao) := hx11.has zcv
            replace a_2 : w11.cell? ⟨b9, o9 + ix * 9 + 2, none⟩ = some (.int .i64 aV) := hx11.has zcv
            replace a_3 : w11.cell? ⟨b9, o9 + ix * 9 + 3, none⟩ = some (.int .i64 aS) := hx11.has zcv
            replace a_4 : w11.cell? ⟨b9, o9 + ix * 9 + 4, none⟩ = some (.int .i64 aP) := hx11.has zcv
            replace a_5 : w11.cell? ⟨b9, o9 + ix * 9 + 5, none⟩ = some (.int .i64 aQ) := hx11.has zcv
            replace a_6 : w11.cell? ⟨b9, o9 + ix * 9 + 6, none⟩ = some (.int .i64 av) := hx11.has zcv
            replace a_7 : w11.cell? ⟨b9, o9 + ix * 9 + 7, none⟩ = some (.int .i64 ah) := hx11.has zcv
            replace a_8 : w11.cell? ⟨b9, o9 + ix * 9 + 8, none⟩ = some (.int .u64 an) := hx11.has zcv
            have c0_0f : w11.frozen? ⟨wo.heap.size, 0, none⟩ = false := hx11.froz (v := .int .i64 0) zcv zcv
            have c0_1f : w11.frozen? ⟨wo.heap.size, 1, none⟩ = false := hx11.froz (v := .int .i64 0) zcv zcv
            have c0_2f : w11.frozen? ⟨wo.heap.size, 2, none⟩ = false := hx11.froz (v := .int .i64 0) zcv zcv
            have c0_3f : w11.frozen? ⟨wo.heap.size, 3, none⟩ = false := hx11.froz (v := .int .i64 0) zcv zcv
            have c0_4f : w11.frozen? ⟨wo.heap.size, 4, none⟩ = false := hx11.froz (v := .int .i64 0) zcv zcv
            have c0_5f : w11.frozen? ⟨wo.heap.size, 5, none⟩ = false := hx11.froz (v := .int .i64 0) zcv zcv
            have c0_6f : w11.frozen? ⟨wo.heap.size, 6, none⟩ = false := hx11.froz (v := .int .i64 0) zcv zcv
            have c0_7f : w11.frozen? ⟨wo.heap.size, 7, none⟩ = false := hx11.froz (v := .int .i64 0) zcv zcv
            have c0_8f : w11.frozen? ⟨wo.heap.size, 8, none⟩ = false := hx11.froz (v := .int .u64 0) zcv zcv
            have c0_0 : w11.cell? ⟨wo.heap.size, 0, none⟩ = some (.int .i64 0) := hx11.has zcv
            have c0_1 : w11.cell? ⟨wo.heap.size, 1, none⟩ = some (.int .i64 0) := hx11.has zcv
            have c0_2 : w11.cell? ⟨wo.heap.size, 2, none⟩ = some (.int .i64 0) := hx11.has zcv
            have c0_3 : w11.cell? ⟨wo.heap.size, 3, none⟩ = some (.int .i64 0) := hx11.has zcv
            have c0_4 : w11.cell? ⟨wo.heap.size, 4, none⟩ = some (.int .i64 0) := hx11.has zcv
            have c0_5 : w11.cell? ⟨wo.heap.size, 5, none⟩ = some (.int .i64 0) := hx11.has zcv
            have c0_6 : w11.cell? ⟨wo.heap.size, 6, none⟩ = some (.int .i64 0) := hx11.has zcv
            have c0_7 : w11.cell? ⟨wo.heap.size, 7, none⟩ = some (.int .i64 0) := hx11.has zcv
            have c0_8 : w11.cell? ⟨wo.heap.size, 8, none⟩ = some (.int .u64 0) := hx11.has zcv
            have z11 := hx11.size
            try simp at z11
            have ne_i_a : ¬ w1.heap.size = b9 := by omega
            have lt_i_c0 : w1.heap.size < wo.heap.size := by omega
            have ne_i_c0 : ¬ w1.heap.size = wo.heap.size := by omega
            have ne_a_i : ¬ b9 = w1.heap.size := by omega
            have lt_a_c0 : b9 < wo.heap.size := by omega
            have ne_a_c0 : ¬ b9 = wo.heap.size := by omega
            have ne_c0_i : ¬ wo.heap.size = w1.heap.size := by omega
            have ne_c0_a : ¬ wo.heap.size = b9 := by omega
            have zq := zrc (show w1.heap.size < w11.heap.size from by omega)
            obtain ⟨ri, ria, rib, ric, rin⟩ := zq
            have zq := zrc (show b9 < w11.heap.size from by omega)
            obtain ⟨ra, raa, rab, rac, ran⟩ := zq
            have zq := zrc (show wo.heap.size < w11.heap.size from by omega)
            obtain ⟨rc0, rc0a, rc0b, rc0c, rc0n⟩ := zq
            have X11 : Hid (Ext wo w11) := Lib.hid (Ext.trans zxt hx11)
            clear i_0f i_1f hx11
            refine hK.out _ _ zSlSum1_3 (fun hHeld => ?_); clear hK K; try simp only [Act.put, List.setIfInBounds_toArray, List.set_cons_zero, List.set_cons_succ]
            refine' zn 7 (fun K hK => ?_)
            go_simp
            refine hK.out _ _ zSlSum1_3 (fun hHeld => ?_); clear hK K; try simp only [Act.put, List.setIfInBounds_toArray, List.set_cons_zero, List.set_cons_succ]
            refine wpAnyH_done (by kernel_rfl) ?_ _
            go_wp2_with fail
            go_meet
            exact ⟨_, yk, yo, yV, yS, yP, yQ, yv, yh, yn, rfl, zcv, zcv, zcv, zcv, zcv, zcv, zcv, zcv, zcv, hN, by first | omega | (simp; done) | (simp; omega), by first | omega | (simp; done) | (simp; omega), zxt⟩
        case rest =>
          obtain ⟨qx, yk, yo, yV, yS, yP, yQ, yv, yh, yn, rfl, x_0, x_1, x_2, x_3, x_4, x_5, x_6, x_7, x_8, hN, hqx, hqw, hX⟩ := hcut
          obtain ⟨wd, hwd⟩ : ∃ x, x = wc := ⟨_, rfl⟩
          subst hwd
          have X70 := Lib.hid hX
          have hzd := hX.size
          replace i_0f := hX.froz i_0 i_0f
          replace i_0 := hX.has i_0
          replace i_1f := hX.froz i_1 i_1f
          replace i_1 := hX.has i_1
          have hix1 : ¬ qx = wd.heap.size := by omega
          have hix2 : ¬ w1.heap.size = wd.heap.size := by omega
          have hix3 : w1.heap.size < wd.heap.size := by omega
          have hix4 : ¬ w1.heap.size = qx := by omega
          have hix5 : ¬ qx = w1.heap.size := by omega
          obtain ⟨⟨CN, PN, NN, LL, EE⟩, hD⟩ : ∃ z, z = doeV CC PP yk yo yV yS yP yQ yv yh yn := ⟨_, rfl⟩
          have HD9 := Lib.hid (fun hE => doeV_ok HK_.out.2.1 HK_.out.2.2 hN.wn hN.k0 hN.k2 hD hE)
          have HLS := Lib.hid (doeV_loss HK_.out.2.1 HK_.out.2.2 hN.wn hD)
          have HN := Lib.hid hN
          have CD := Lib.hid (fun (w' : World) (hx : Ext wo w') => does13_in d d2 B B2 CC PP yk yo yV yS yP yQ yv yh yn CN PN NN EE LL w' (SLs.out w' hx).1 (SLs.out w' hx).2 (by omega) (by omega) nB nB2 HK_.out.2.1 HK_.out.2.2 hN.wn hN.k0 hN.k2 hD)
          clear hX hD hN CNA a_0 a_1 a_2 a_3 a_4 a_5 a_6 a_7 a_8
          go_wp2_with fail
          (with_reducible refine (CAL.out _ zxt).mono ?_)
          rintro e w71 ⟨rfl, hx71⟩
          replace i_0f : w71.frozen? ⟨w1.heap.size, 0, none⟩ = false := hx71.froz (v := .slice B CC.length d) zcv zcv
          replace i_1f : w71.frozen? ⟨w1.heap.size, 1, none⟩ = false := hx71.froz (v := .slice B2 PP.length d2) zcv zcv
          replace i_0 : w71.cell? ⟨w1.heap.size, 0, none⟩ = some (.slice B CC.length d) := hx71.has zcv
          replace i_1 : w71.cell? ⟨w1.heap.size, 1, none⟩ = some (.slice B2 PP.length d2) := hx71.has zcv
          replace x_0 : w71.cell? ⟨qx, 0, none⟩ = some (.int .i64 yk) := hx71.has zcv
          replace x_1 : w71.cell? ⟨qx, 1, none⟩ = some (.int .i64 yo) := hx71.has zcv
          replace x_2 : w71.cell? ⟨qx, 2, none⟩ = some (.int .i64 yV) := hx71.has zcv
          replace x_3 : w71.cell? ⟨qx, 3, none⟩ = some (.int .i64 yS) := hx71.has zcv
          replace x_4 : w71.cell? ⟨qx, 4, none⟩ = some (.int .i64 yP) := hx71.has zcv
          replace x_5 : w71.cell? ⟨qx, 5, none⟩ = some (.int .i64 yQ) := hx71.has zcv
          replace x_6 : w71.cell? ⟨qx, 6, none⟩ = some (.int .i64 yv) := hx71.has zcv
          replace x_7 : w71.cell? ⟨qx, 7, none⟩ = some (.int .i64 yh) := hx71.has zcv
          replace x_8 : w71.cell? ⟨qx, 8, none⟩ = some (.int .u64 yn) := hx71.has zcv
          have z71 := hx71.size
          try simp at z71
          have ne_i_x : ¬ w1.heap.size = qx := by omega
          have ne_x_i : ¬ qx = w1.heap.size := by omega
          have zq := zrc (show w1.heap.size < w71.heap.size from by omega)
          obtain ⟨ri, ria, rib, ric, rin⟩ := zq
          have zq := zrc (show qx < w71.heap.size from by omega)
          obtain ⟨rx, rxa, rxb, rxc, rxn⟩ := zq
          have X71 : Hid (Ext wo w71) := Lib.hid (Ext.trans zxt hx71)
          clear X70 hx71
          go_wp2_with fail
          (with_reducible refine (CD.out _ zxt).mono ?_)
          rintro e w72 ⟨B3, d3, B4, d4, A9, c9, rfl, nB3, nB4, hO3, hO4, hO9, hx72⟩
          replace i_0f := zf hx72 i_0 i_0f
          replace i_1f := zf hx72 i_1 i_1f
          replace i_0 := zh hx72 i_0
          replace i_1 := zh hx72 i_1
          replace x_0 := zh hx72 x_0
          replace x_8 := zh hx72 x_8
          have z72 := hx72.size
          try simp at z72
          have zq := zrc (show w1.heap.size < w72.heap.size from by omega)
          clear ri ria rib ric rin
          obtain ⟨ri, ria, rib, ric, rin⟩ := zq
          have zq := zrc (show qx < w72.heap.size from by omega)
          clear rx rxa rxb rxc rxn
          obtain ⟨rx, rxa, rxb, rxc, rxn⟩ := zq
          have X72 : Hid (Ext wo w72) := Lib.hid (Ext.trans zxt hx72)
          have HA := Lib.hid (show OwnCls _ wo.heap.size _ _ _ from own_lower hO3 (by first | exact Nat.le_refl _ | omega | (simp; done) | (simp; omega)))
          have HB := Lib.hid (show OwnPos _ wo.heap.size _ _ _ from own_lower hO4 (by first | exact Nat.le_refl _ | omega | (simp; done) | (simp; omega)))
          have HL := Lib.hid (show OwnLoss _ wo.heap.size _ _ _ from own_lower hO9 (by first | exact Nat.le_refl _ | omega | (simp; done) | (simp; omega)))
          clear x_7 x_3 x_5 x_2 x_4 x_6 x_1 X71 hx72
          have RA := Lib.hid (own_rng hO3)
          have RB := Lib.hid (own_rng hO4)
          have RL := Lib.hid (own_rng hO9)
          clear hO3 hO4 hO9
          by_cases hE : ¬ EE = 0
          · have hEb : (EE != 0) = true := by simp [hE]
            go_wp2_with fail
            go_roundg (gO - 1)
            case measure => have := HK.out; omega
            case rel => exact ⟨by have := HK.out; omega, num_eq (by have := HK.out; omega), CC, PP, B, B2, d, d2, Lib.hid ⟨zcv, zcv, zcv, zcv⟩, nB, nB2, Lib.hid (OwnCls.ext HO.out zxt), Lib.hid (OwnPos.ext HP.out zxt), HK_, by have := HK.out; omega, by have := HK.out; omega, NQ, NQ2, Lib.hid (Ext.trans XW.out zxt)⟩
          · replace hE : EE = 0 := by omega
            subst hE
            obtain ⟨_, ok2, wd1, wd2, ln1, ln2, t0, t1, t2⟩ := HD9.out (by trivial)
            have HK2 := Lib.hid (And.intro ok2 (And.intro wd1 wd2))
            obtain ⟨TN, hTN⟩ : ∃ t, t = totC CN := ⟨_, rfl⟩
            rw [← hTN, ← HT.out.1] at t0 t1
            have hTN2 : 0 ≤ TN ∧ TN ≤ 4611686018427387904 := by rw [hTN]; exact ⟨addF_nn (fun y hy => (wd1 y hy).1.1), ok2.tot⟩
            have CA2 := Lib.hid (fun (w' : World) (h1 : Sl w' 6 B3 CN.length d3 (CN.flatMap clsC)) (h2 : Sl w' 6 B4 PN.length d4 (PN.flatMap posC)) => (show Calls Tryz.prog 30 #[.agg #[.slice B3 CN.length d3, .slice B4 PN.length d4]] w' fun r w'' => r = .returned (.tuple #[.int .u64 TN, .int .i64 0]) ∧ Ext w' w'' from by
              have := hAll_any CN.length d3 PN.length d4 B3 B4 CN PN w' h1 h2 (by omega) (by omega) wd1 wd2
              unfold allT at this
              rw [(chkH_iff CN PN).2 ok2, if_pos rfl, ← hTN] at this
              exact this))
            have CC2 := Lib.hid (fun (w' : World) (h1 : Sl w' 6 B3 CN.length d3 (CN.flatMap clsC)) (h2 : Sl w' 6 B4 PN.length d4 (PN.flatMap posC)) => (show Calls Tryz.prog 14 #[.agg #[.slice B3 CN.length d3, .slice B4 PN.length d4]] w' fun r w'' => r = .returned (.int .i64 0) ∧ Ext w' w'' from by
              have := hCheck_any CN.length d3 PN.length d4 B3 B4 CN PN w' h1 h2 (by omega) (by omega) wd1 wd2
              rw [(chkH_iff CN PN).2 ok2] at this
              exact this))
            have HTT := Lib.hid (And.intro t0 (And.intro t1 (And.intro t2 hTN2)))
            have hln := Lib.hid (And.intro ln1 ln2)
            clear ok2 wd1 wd2 ln1 ln2 t0 t1 t2 hTN hTN2
            go_wp2_with fail
            (refine (CA2.out _ (OwnCls.sl (show OwnCls _ wo.heap.size (.slice B3 CN.length d3) CN.length CN from zSlSum1_1)) (OwnPos.sl (show OwnPos _ wo.heap.size (.slice B4 PN.length d4) PN.length PN from zSlSum1_0))).mono ?_)
            rintro e w73 ⟨rfl, hx73⟩
            replace i_0f : w73.frozen? ⟨w1.heap.size, 0, none⟩ = false := hx73.froz (v := .slice B CC.length d) zcv zcv
            replace i_1f : w73.frozen? ⟨w1.heap.size, 1, none⟩ = false := hx73.froz (v := .slice B2 PP.length d2) zcv zcv
            replace i_0 : w73.cell? ⟨w1.heap.size, 0, none⟩ = some (.slice B CC.length d) := hx73.has zcv
            replace i_1 : w73.cell? ⟨w1.heap.size, 1, none⟩ = some (.slice B2 PP.length d2) := hx73.has zcv
            replace x_0 : w73.cell? ⟨qx, 0, none⟩ = some (.int .i64 yk) := hx73.has zcv
            replace x_8 : w73.cell? ⟨qx, 8, none⟩ = some (.int .u64 yn) := hx73.has zcv
            have c0_0 : w73.cell? ⟨w72.heap.size, 0, none⟩ = some (.slice B3 CN.length d3) := hx73.has zcv
            have c0_1 : w73.cell? ⟨w72.heap.size, 1, none⟩ = some (.slice B4 PN.length d4) := hx73.has zcv
            have z73 := hx73.size
            try simp at z73
            have lt_i_c0 : w1.heap.size < w72.heap.size := by omega
            have ne_i_c0 : ¬ w1.heap.size = w72.heap.size := by omega
            have lt_x_c0 : qx < w72.heap.size := by omega
            have ne_x_c0 : ¬ qx = w72.heap.size := by omega
            have ne_c0_i : ¬ w72.heap.size = w1.heap.size := by omega
            have ne_c0_x : ¬ w72.heap.size = qx := by omega
            have zq := zrc (show w1.heap.size < w73.heap.size from by omega)
            clear ri ria rib ric rin
            obtain ⟨ri, ria, rib, ric, rin⟩ := zq
            have zq := zrc (show qx < w73.heap.size from by omega)
            clear rx rxa rxb rxc rxn
            obtain ⟨rx, rxa, rxb, rxc, rxn⟩ := zq
            have zq := zrc (show w72.heap.size < w73.heap.size from by omega)
            obtain ⟨rc0, rc0a, rc0b, rc0c, rc0n⟩ := zq
            replace HA := Lib.hid ((show OwnCls _ wo.heap.size (.slice B3 CN.length d3) CN.length CN from zSlSum1_1).ext hx73)
            replace HB := Lib.hid ((show OwnPos _ wo.heap.size (.slice B4 PN.length d4) PN.length PN from zSlSum1_0).ext hx73)
            replace HL := Lib.hid ((show OwnLoss _ wo.heap.size (.slice A9 LL.length c9) LL.length LL from zSlSum1_2).ext hx73)
            have X73 : Hid (Ext wo w73) := Lib.hid (Ext.trans zxt hx73)
            clear X72 hx73
            go_wp2_with fail
            have HLN := Lib.hid (OwnLoss.sl (show OwnLoss _ wo.heap.size (.slice A9 LL.length c9) LL.length LL from zSlSum1_2))
            go_loopg [15, 16] LL.length (fun gh s15 i wx => gh ≤ LL.length ∧ i = .int .i64 ((LL.length - gh : Nat) : Int) ∧ s15 = .int .u64 (losN (LL.take (LL.length - gh))) ∧ w73 = wx)
            case atStart => exact ⟨Nat.le_refl _, by simp, by rw [Nat.sub_self]; rfl, rfl⟩
            case round =>
              obtain ⟨hg2, hi2, ha2, hwx2⟩ := hrel
              subst hwx2
              obtain ⟨jx, hjx⟩ : ∃ k, k = LL.length - gk := ⟨_, rfl⟩
              rw [← hjx] at hi2 ha2
              subst hi2
              obtain ⟨t9, ht9⟩ : ∃ t, t = losN (LL.take jx) := ⟨_, rfl⟩
              rw [← ht9] at ha2
              subst ha2
              by_cases hz2 : gk = 0
              · have hjn : ¬ (jx : Int) < (LL.length : Int) := by omega
                have hT9 : t9 = losN LL := by rw [ht9, List.take_of_length_le (by omega)]
                have HT9 := Lib.hid hT9
                clear hg2 hjx hz2 ht9 hT9 HLN
                by_cases qk : yk = 0
                · have qkb : (yk == 0) = true := by simp [qk]
                  have e0 := HTT.out.1 qk
                  have hw0 : IntKind.u64.wrap (TC + yn) = TN := by rw [← e0]; exact IntWalk.u64_in _ (by have := HTT.out; omega)
                  go_wp2_with fail
                  (with_reducible refine (held13_any _).mono ?_)
                  rintro e w74 ⟨rfl, hx74⟩
                  replace i_0f : w74.frozen? ⟨w1.heap.size, 0, none⟩ = false := hx74.froz (v := .slice B CC.length d) zcv zcv
                  replace i_1f : w74.frozen? ⟨w1.heap.size, 1, none⟩ = false := hx74.froz (v := .slice B2 PP.length d2) zcv zcv
                  replace i_0 : w74.cell? ⟨w1.heap.size, 0, none⟩ = some (.slice B CC.length d) := hx74.has zcv
                  replace i_1 : w74.cell? ⟨w1.heap.size, 1, none⟩ = some (.slice B2 PP.length d2) := hx74.has zcv
                  replace c0_0 : w74.cell? ⟨w72.heap.size, 0, none⟩ = some (.slice B3 CN.length d3) := hx74.has zcv
                  replace c0_1 : w74.cell? ⟨w72.heap.size, 1, none⟩ = some (.slice B4 PN.length d4) := hx74.has zcv
                  have z74 := hx74.size
                  try simp at z74
                  have zq := zrc (show w1.heap.size < w74.heap.size from by omega)
                  clear ri ria rib ric rin
                  obtain ⟨ri, ria, rib, ric, rin⟩ := zq
                  have zq := zrc (show w72.heap.size < w74.heap.size from by omega)
                  clear rc0 rc0a rc0b rc0c rc0n
                  obtain ⟨rc0, rc0a, rc0b, rc0c, rc0n⟩ := zq
                  replace HA := Lib.hid ((show OwnCls _ wo.heap.size (.slice B3 CN.length d3) CN.length CN from zSlSum1_1).ext hx74)
                  replace HB := Lib.hid ((show OwnPos _ wo.heap.size (.slice B4 PN.length d4) PN.length PN from zSlSum1_0).ext hx74)
                  replace HL := Lib.hid ((show OwnLoss _ wo.heap.size (.slice A9 LL.length c9) LL.length LL from zSlSum1_2).ext hx74)
                  have X74 : Hid (Ext wo w74) := Lib.hid (Ext.trans zxt hx74)
                  clear x_8 x_0 rx rxa rxb rxc rxn X73 hx74
                  go_wp2_with fail
                  (refine (CC2.out _ (OwnCls.sl (show OwnCls _ wo.heap.size (.slice B3 CN.length d3) CN.length CN from zSlSum1_1)) (OwnPos.sl (show OwnPos _ wo.heap.size (.slice B4 PN.length d4) PN.length PN from zSlSum1_0))).mono ?_)
                  rintro e w75 ⟨rfl, hx75⟩
                  replace i_0f := zf hx75 i_0 i_0f
                  replace i_1f := zf hx75 i_1 i_1f
                  replace i_0 := zh hx75 i_0
                  replace i_1 := zh hx75 i_1
                  replace c0_0 := zh hx75 c0_0
                  replace c0_1 := zh hx75 c0_1
                  have z75 := hx75.size
                  try simp at z75
                  have zq := zrc (show w1.heap.size < w75.heap.size from by omega)
                  clear ri ria rib ric rin
                  obtain ⟨ri, ria, rib, ric, rin⟩ := zq
                  have zq := zrc (show w72.heap.size < w75.heap.size from by omega)
                  clear rc0 rc0a rc0b rc0c rc0n
                  obtain ⟨rc0, rc0a, rc0b, rc0c, rc0n⟩ := zq
                  replace HA := Lib.hid ((show OwnCls _ wo.heap.size (.slice B3 CN.length d3) CN.length CN from zSlSum1_1).ext hx75)
                  replace HB := Lib.hid ((show OwnPos _ wo.heap.size (.slice B4 PN.length d4) PN.length PN from zSlSum1_0).ext hx75)
                  replace HL := Lib.hid ((show OwnLoss _ wo.heap.size (.slice A9 LL.length c9) LL.length LL from zSlSum1_2).ext hx75)
                  have X75 : Hid (Ext wo w75) := Lib.hid (Ext.trans zxt hx75)
                  clear X74 hx75
                  go_wp2_with fail
                  go_roundg (gO - 1)
                  case measure => have := HK.out; omega
                  case rel => exact ⟨by have := HK.out; omega, num_eq (by have := HK.out; omega), CN, PN, B3, B4, d3, d4, Lib.hid (show Bk _ _ (.slice B3 CN.length d3) (.slice B4 PN.length d4) from ⟨zcv, zcv, zcv, zcv⟩), nB3, nB4, Lib.hid (show OwnCls _ w.heap.size _ _ _ from own_lower (show OwnCls _ wo.heap.size (.slice B3 CN.length d3) CN.length CN from zSlSum1_1) (by omega)), Lib.hid (show OwnPos _ w.heap.size _ _ _ from own_lower (show OwnPos _ wo.heap.size (.slice B4 PN.length d4) PN.length PN from zSlSum1_0) (by omega)), HK2, by have := HK.out; have := hln.out; omega, by have := HK.out; have := hln.out; omega, Lib.hid (fun j hj hh => by have h9 := RA.out j hj; omega), Lib.hid (fun j hj hh => by have h9 := RB.out j hj; omega), Lib.hid zSlSum1_4⟩
                · have qkb : (yk == 0) = false := by simpa using qk
                  by_cases qk1 : yk = 1
                  · have qkc : (yk == 1) = true := by simp [qk1]
                    have e1 := (HTT.out.2.1 qk).1
                    have hw0 : IntKind.u64.wrap (TN + NN) = TC := by rw [e1]; exact IntWalk.u64_in _ (by have := HT.out.2; omega)
                    have hwT : IntKind.u64.wrap TC = TC := IntWalk.u64_in _ (by have := HT.out.2; omega)
                    go_wp2_with fail
                    (with_reducible refine (held13_any _).mono ?_)
                    rintro e w74 ⟨rfl, hx74⟩
                    replace i_0f : w74.frozen? ⟨w1.heap.size, 0, none⟩ = false := hx74.froz (v := .slice B CC.length d) zcv zcv
                    replace i_1f : w74.frozen? ⟨w1.heap.size, 1, none⟩ = false := hx74.froz (v := .slice B2 PP.length d2) zcv zcv
                    replace i_0 : w74.cell? ⟨w1.heap.size, 0, none⟩ = some (.slice B CC.length d) := hx74.has zcv
                    replace i_1 : w74.cell? ⟨w1.heap.size, 1, none⟩ = some (.slice B2 PP.length d2) := hx74.has zcv
                    replace c0_0 : w74.cell? ⟨w72.heap.size, 0, none⟩ = some (.slice B3 CN.length d3) := hx74.has zcv
                    replace c0_1 : w74.cell? ⟨w72.heap.size, 1, none⟩ = some (.slice B4 PN.length d4) := hx74.has zcv
                    have z74 := hx74.size
                    try simp at z74
                    have zq := zrc (show w1.heap.size < w74.heap.size from by omega)
                    clear ri ria rib ric rin
                    obtain ⟨ri, ria, rib, ric, rin⟩ := zq
                    have zq := zrc (show w72.heap.size < w74.heap.size from by omega)
                    clear rc0 rc0a rc0b rc0c rc0n
                    obtain ⟨rc0, rc0a, rc0b, rc0c, rc0n⟩ := zq
                    replace HA := Lib.hid ((show OwnCls _ wo.heap.size (.slice B3 CN.length d3) CN.length CN from zSlSum1_1).ext hx74)
                    replace HB := Lib.hid ((show OwnPos _ wo.heap.size (.slice B4 PN.length d4) PN.length PN from zSlSum1_0).ext hx74)
                    replace HL := Lib.hid ((show OwnLoss _ wo.heap.size (.slice A9 LL.length c9) LL.length LL from zSlSum1_2).ext hx74)
                    have X74 : Hid (Ext wo w74) := Lib.hid (Ext.trans zxt hx74)
                    clear x_8 x_0 rx rxa rxb rxc rxn X73 hx74
                    go_wp2_with fail
                    (refine (CC2.out _ (OwnCls.sl (show OwnCls _ wo.heap.size (.slice B3 CN.length d3) CN.length CN from zSlSum1_1)) (OwnPos.sl (show OwnPos _ wo.heap.size (.slice B4 PN.length d4) PN.length PN from zSlSum1_0))).mono ?_)
                    rintro e w75 ⟨rfl, hx75⟩
                    replace i_0f := zf hx75 i_0 i_0f
                    replace i_1f := zf hx75 i_1 i_1f
                    replace i_0 := zh hx75 i_0
                    replace i_1 := zh hx75 i_1
                    replace c0_0 := zh hx75 c0_0
                    replace c0_1 := zh hx75 c0_1
                    have z75 := hx75.size
                    try simp at z75
                    have zq := zrc (show w1.heap.size < w75.heap.size from by omega)
                    clear ri ria rib ric rin
                    obtain ⟨ri, ria, rib, ric, rin⟩ := zq
                    have zq := zrc (show w72.heap.size < w75.heap.size from by omega)
                    clear rc0 rc0a rc0b rc0c rc0n
                    obtain ⟨rc0, rc0a, rc0b, rc0c, rc0n⟩ := zq
                    replace HA := Lib.hid ((show OwnCls _ wo.heap.size (.slice B3 CN.length d3) CN.length CN from zSlSum1_1).ext hx75)
                    replace HB := Lib.hid ((show OwnPos _ wo.heap.size (.slice B4 PN.length d4) PN.length PN from zSlSum1_0).ext hx75)
                    replace HL := Lib.hid ((show OwnLoss _ wo.heap.size (.slice A9 LL.length c9) LL.length LL from zSlSum1_2).ext hx75)
                    have X75 : Hid (Ext wo w75) := Lib.hid (Ext.trans zxt hx75)
                    clear X74 hx75
                    go_wp2_with fail
                    go_roundg (gO - 1)
                    case measure => have := HK.out; omega
                    case rel => exact ⟨by have := HK.out; omega, num_eq (by have := HK.out; omega), CN, PN, B3, B4, d3, d4, Lib.hid (show Bk _ _ (.slice B3 CN.length d3) (.slice B4 PN.length d4) from ⟨zcv, zcv, zcv, zcv⟩), nB3, nB4, Lib.hid (show OwnCls _ w.heap.size _ _ _ from own_lower (show OwnCls _ wo.heap.size (.slice B3 CN.length d3) CN.length CN from zSlSum1_1) (by omega)), Lib.hid (show OwnPos _ w.heap.size _ _ _ from own_lower (show OwnPos _ wo.heap.size (.slice B4 PN.length d4) PN.length PN from zSlSum1_0) (by omega)), HK2, by have := HK.out; have := hln.out; omega, by have := HK.out; have := hln.out; omega, Lib.hid (fun j hj hh => by have h9 := RA.out j hj; omega), Lib.hid (fun j hj hh => by have h9 := RB.out j hj; omega), Lib.hid zSlSum1_4⟩
                  · have qkc : (yk == 1) = false := by simpa using qk1
                    have e1 := (HTT.out.2.1 qk).1
                    have hw0 : IntKind.u64.wrap (TN + NN) = TC := by rw [e1]; exact IntWalk.u64_in _ (by have := HT.out.2; omega)
                    have hwT : IntKind.u64.wrap TC = TC := IntWalk.u64_in _ (by have := HT.out.2; omega)
                    have HE2 := Lib.hid (HTT.out.2.2.1 (by have := HN.out.k0; have := HN.out.k2; omega))
                    have e3 : (t9 == NN) = true := by rw [HT9.out, HE2.out]; simp
                    go_wp2_with fail
                    (with_reducible refine (held13_any _).mono ?_)
                    rintro e w74 ⟨rfl, hx74⟩
                    replace i_0f : w74.frozen? ⟨w1.heap.size, 0, none⟩ = false := hx74.froz (v := .slice B CC.length d) zcv zcv
                    replace i_1f : w74.frozen? ⟨w1.heap.size, 1, none⟩ = false := hx74.froz (v := .slice B2 PP.length d2) zcv zcv
                    replace i_0 : w74.cell? ⟨w1.heap.size, 0, none⟩ = some (.slice B CC.length d) := hx74.has zcv
                    replace i_1 : w74.cell? ⟨w1.heap.size, 1, none⟩ = some (.slice B2 PP.length d2) := hx74.has zcv
                    replace c0_0 : w74.cell? ⟨w72.heap.size, 0, none⟩ = some (.slice B3 CN.length d3) := hx74.has zcv
                    replace c0_1 : w74.cell? ⟨w72.heap.size, 1, none⟩ = some (.slice B4 PN.length d4) := hx74.has zcv
                    have z74 := hx74.size
                    try simp at z74
                    have zq := zrc (show w1.heap.size < w74.heap.size from by omega)
                    clear ri ria rib ric rin
                    obtain ⟨ri, ria, rib, ric, rin⟩ := zq
                    have zq := zrc (show w72.heap.size < w74.heap.size from by omega)
                    clear rc0 rc0a rc0b rc0c rc0n
                    obtain ⟨rc0, rc0a, rc0b, rc0c, rc0n⟩ := zq
                    replace HA := Lib.hid ((show OwnCls _ wo.heap.size (.slice B3 CN.length d3) CN.length CN from zSlSum1_1).ext hx74)
                    replace HB := Lib.hid ((show OwnPos _ wo.heap.size (.slice B4 PN.length d4) PN.length PN from zSlSum1_0).ext hx74)
                    replace HL := Lib.hid ((show OwnLoss _ wo.heap.size (.slice A9 LL.length c9) LL.length LL from zSlSum1_2).ext hx74)
                    have X74 : Hid (Ext wo w74) := Lib.hid (Ext.trans zxt hx74)
                    clear x_8 x_0 rx rxa rxb rxc rxn X73 hx74
                    go_wp2_with fail
                    (refine (CC2.out _ (OwnCls.sl (show OwnCls _ wo.heap.size (.slice B3 CN.length d3) CN.length CN from zSlSum1_1)) (OwnPos.sl (show OwnPos _ wo.heap.size (.slice B4 PN.length d4) PN.length PN from zSlSum1_0))).mono ?_)
                    rintro e w75 ⟨rfl, hx75⟩
                    replace i_0f := zf hx75 i_0 i_0f
                    replace i_1f := zf hx75 i_1 i_1f
                    replace i_0 := zh hx75 i_0
                    replace i_1 := zh hx75 i_1
                    replace c0_0 := zh hx75 c0_0
                    replace c0_1 := zh hx75 c0_1
                    have z75 := hx75.size
                    try simp at z75
                    have zq := zrc (show w1.heap.size < w75.heap.size from by omega)
                    clear ri ria rib ric rin
                    obtain ⟨ri, ria, rib, ric, rin⟩ := zq
                    have zq := zrc (show w72.heap.size < w75.heap.size from by omega)
                    clear rc0 rc0a rc0b rc0c rc0n
                    obtain ⟨rc0, rc0a, rc0b, rc0c, rc0n⟩ := zq
                    replace HA := Lib.hid ((show OwnCls _ wo.heap.size (.slice B3 CN.length d3) CN.length CN from zSlSum1_1).ext hx75)
                    replace HB := Lib.hid ((show OwnPos _ wo.heap.size (.slice B4 PN.length d4) PN.length PN from zSlSum1_0).ext hx75)
                    replace HL := Lib.hid ((show OwnLoss _ wo.heap.size (.slice A9 LL.length c9) LL.length LL from zSlSum1_2).ext hx75)
                    have X75 : Hid (Ext wo w75) := Lib.hid (Ext.trans zxt hx75)
                    clear X74 hx75
                    go_wp2_with fail
                    go_roundg (gO - 1)
                    case measure => have := HK.out; omega
                    case rel => exact ⟨by have := HK.out; omega, num_eq (by have := HK.out; omega), CN, PN, B3, B4, d3, d4, Lib.hid (show Bk _ _ (.slice B3 CN.length d3) (.slice B4 PN.length d4) from ⟨zcv, zcv, zcv, zcv⟩), nB3, nB4, Lib.hid (show OwnCls _ w.heap.size _ _ _ from own_lower (show OwnCls _ wo.heap.size (.slice B3 CN.length d3) CN.length CN from zSlSum1_1) (by omega)), Lib.hid (show OwnPos _ w.heap.size _ _ _ from own_lower (show OwnPos _ wo.heap.size (.slice B4 PN.length d4) PN.length PN from zSlSum1_0) (by omega)), HK2, by have := HK.out; have := hln.out; omega, by have := HK.out; have := hln.out; omega, Lib.hid (fun j hj hh => by have h9 := RA.out j hj; omega), Lib.hid (fun j hj hh => by have h9 := RB.out j hj; omega), Lib.hid zSlSum1_4⟩
              · have hjn : (jx : Int) < (LL.length : Int) := by omega
                have hjl : jx < LL.length := by omega
                have hjs : jx < 1000 := by have := HLS.out.2.2; omega
                have hjw : IntKind.i64.wrap ((jx : Int) + 1) = (jx : Int) + 1 := IntWalk.i64_in _ (by omega)
                obtain ⟨b8, o8, rfl, hb8, hc8⟩ := HLN.out.rec_ lossC_len (show 0 < LL.length from by omega)
                obtain ⟨y8, hy8⟩ : ∃ x, LL[jx]? = some x := ⟨_, List.getElem?_eq_getElem hjl⟩
                have v_4 := hc8 jx y8 hy8 4 _ rfl
                have hst : losN (LL.take (jx + 1)) = t9 + y8.2.2.2.2 := by rw [ht9]; exact addF_take (fun x => x.2.2.2.2) hy8
                have hb1 := losN_take HLS.out.1 jx
                have hb2 := losN_take HLS.out.1 (jx + 1)
                have hb3 := HLS.out.2.1
                have hb4 := HLS.out.1 y8 (List.mem_of_getElem? hy8)
                rw [hst] at hb2
                rw [← ht9] at hb1
                obtain ⟨z1, z2, z3, z4, z5⟩ := y8
                simp only at v_4 hst hb2 hb4
                rw [← Nat.add_assoc] at v_4
                have hwz : IntKind.u64.wrap (t9 + z5) = t9 + z5 := IntWalk.u64_in _ (by omega)
                have HT8 := Lib.hid hst
                have HJ := Lib.hid (And.intro hjx (And.intro hg2 hz2))
                clear hst hb1 hb2 hb3 hb4 ht9 hy8 hc8 hjx hg2 hz2
                go_wp2_with fail
                go_roundg (gk - 1)
                case measure => have := HJ.out; omega
                case rel => exact ⟨by have := HJ.out; omega, num_eq (by have := HJ.out; omega), num_eq (by rw [show LL.length - (gk - 1) = jx + 1 from by have := HJ.out; omega]; exact HT8.out.symm), rfl⟩
end
end Go.Proofs.YtkinchgjidpjnaaGreat
