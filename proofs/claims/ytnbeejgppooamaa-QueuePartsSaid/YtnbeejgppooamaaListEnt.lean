/- Lists of Entries: side by side, others like them, written over. Conditions stand in each lemma. -/
import Derived.Test.YtnbeejgppooamaaNumber
import Derived.Test.YtnbeejgppooamaaOwn
import Derived.Test.YtnbeejgppooamaaHeld2
import Derived.Laws.OwnMore
import Derived.Test.YtnbeejgppooamaaRec4
import Derived.Test.YtnbeejgppooamaaAppB
set_option linter.unusedVariables false
set_option linter.unusedSimpArgs false
namespace Go.Proofs.Ytnbeejgppooamaa
open Go.RowKit Go.ChangeShapes Go.WideShapes Go.Deep Go.Joins

instance : DecidableEq (Int × Int × Int × Int) := inferInstance
instance : DecidableEq (Int × Int × Int × Int × Int × Int) := inferInstance
instance : DecidableEq (Int × Int × Int × Int × Int × Int × Int × Int) := inferInstance
/-- a record's cells -/
def entC (x : Int × Int × Int × Int × Int × Int × Int × Int) : List Value := [.int .i64 x.1, .int .i64 x.2.1, .int .i64 x.2.2.1, .int .i64 x.2.2.2.1, .int .i64 x.2.2.2.2.1, .int .i64 x.2.2.2.2.2.1, .int .u64 x.2.2.2.2.2.2.1, .int .u64 x.2.2.2.2.2.2.2]
theorem entC_len (x : Int × Int × Int × Int × Int × Int × Int × Int) : (entC x).length = 8 := rfl
theorem entC_one {l : List (Int × Int × Int × Int × Int × Int × Int × Int)} : ∀ u ∈ l.flatMap entC, u.oneCell' = true := by
  intro u hu
  obtain ⟨x, _, hx⟩ := List.mem_flatMap.1 hu
  unfold entC at hx
  simp at hx
  rcases hx with rfl | rfl | rfl | rfl | rfl | rfl | rfl | rfl <;> rfl
theorem ent_info : (Try.prog.info? 27).map (fun i => (i.zero, i.size, i.bytes)) = some (some (.agg #[.int .i64 0, .int .i64 0, .int .i64 0, .int .i64 0, .int .i64 0, .int .i64 0, .int .u64 0, .int .u64 0]), 8, 64) := by kernel_rfl
/-- a row of records of one's own -/
def OwnEnt (w : World) (base : Nat) (v : Value) (n : Nat) (l : List (Int × Int × Int × Int × Int × Int × Int × Int)) : Prop := w.ownsRow base 27 8 v n (l.flatMap entC)
theorem OwnEnt.ext {w w' : World} {base n : Nat} {v : Value} {l : List (Int × Int × Int × Int × Int × Int × Int × Int)} (h : OwnEnt w base v n l) (hx : Ext w w') : OwnEnt w' base v n l := own_keep h hx
theorem OwnEnt.sl {w : World} {base n c : Nat} {A : Option Addr} {l : List (Int × Int × Int × Int × Int × Int × Int × Int)} (h : OwnEnt w base (.slice A n c) n l) : Sl w 8 A n c (l.flatMap entC) := Sl.own h
theorem OwnEnt.in_ {w : World} {base n c : Nat} {A : Option Addr} {l : List (Int × Int × Int × Int × Int × Int × Int × Int)} (h : OwnEnt w base (.slice A n c) n l) : ∀ k o s, A = some ⟨k, o, s⟩ → base ≤ k ∧ k < w.heap.size := by
  intro k o s e'
  subst e'
  exact World.ownsRow.lt h k rfl
theorem OwnEnt.nil (w : World) (base : Nat) : OwnEnt w base (.slice none 0 0) 0 [] := World.ownsRow_nil _ _ _ _
/-- records handed back -/
def RetEnt (l : List (Int × Int × Int × Int × Int × Int × Int × Int)) (w : World) (e : Ending) (w' : World) : Prop := ∃ A c, e = .returned (.slice A l.length c) ∧ (A = none → c = 0) ∧ OwnEnt w' w.heap.size (.slice A l.length c) l.length l ∧ Ext w w'
theorem RetEnt.mk {l : List (Int × Int × Int × Int × Int × Int × Int × Int)} {w w' : World} {v : Value} (h : w'.ownsRow w.heap.size 27 8 v l.length (l.flatMap entC)) (hx : Ext w w') : RetEnt l w (.returned v) w' := by
  obtain ⟨A, c, rfl, h1, h2⟩ := own_parts2 h
  exact ⟨A, c, rfl, h1, h, hx⟩
set_option maxRecDepth 100000 in
theorem kCopyEntries_any (A : Option Addr) (c : Nat) (l : List (Int × Int × Int × Int × Int × Int × Int × Int)) (w : World) (h : Sl w 8 A l.length c (l.flatMap entC)) (hn : l.length < 1099511627776) :
    Calls Try.prog 11 #[.slice A l.length c] w (RetEnt l w) := by
  obtain ⟨i0, hi, hz0, hz1, hz2⟩ := info_parts ent_info
  have HS := Lib.hid h
  clear h
  generalize hL : l.length = n at *
  replace hL := Lib.hid hL
  go_enter Try.func11, Try.ntmps11
  go_wp2_with (at_builtin; refine wpList_append_sl (w.alloc (.cells #[] 27)) rfl _ _ 22 rfl w.heap.size 27 i0 (.agg #[.int .i64 0, .int .i64 0, .int .i64 0, .int .i64 0, .int .i64 0, .int .i64 0, .int .u64 0, .int .u64 0]) 8 64 Try.underlying22 hi hz0 hz1 hz2 rfl (by decide) _ 0 [] (by rfl) (own_empty w _ _) A n c (l.flatMap entC) (by rfl) (HS.out.ext ((Ext.refl _).alloc _)) entC_one (by omega) (by decide) (by simp) ?_; intro v1 w1 hown1 hb1; simp only [Nat.zero_add, List.nil_append] at hown1; have H := Lib.hid (show RetEnt l w (.returned v1) w1 from RetEnt.mk (by rw [hL.out]; exact hown1) (((Ext.refl w).alloc (.cells #[] 27)).below hb1)); clear hown1 hb1)
  go_ret
  exact H.out
set_option maxRecDepth 100000 in
theorem eClone_any (A : Option Addr) (c : Nat) (l : List (Int × Int × Int × Int × Int × Int × Int × Int)) (w : World) (h : Sl w 8 A l.length c (l.flatMap entC)) (hn : l.length < 1099511627776) (hnil : A = none → c = 0) :
    Calls Try.prog 44 #[.slice A l.length c] w (RetEnt l w) := by
  have q22 : ∀ (w : World) (a : Option Addr) (n c n' c' : Nat), (binOp .eql 22 (.slice a n c) (.slice none n' c')).run Try.prog w = .ok (.bool a.isNone) w := fun w a n c n' c' => Go.Lib.run_eql_slice_nil w _ _ a n c n' c' Try.underlying22
  rcases A with _ | a
  · have hc := hnil rfl
    subst hc
    have h0 : l.length = 0 := by
      rcases Nat.eq_zero_or_pos l.length with h0 | h0
      · exact h0
      · obtain ⟨_, _, hh, _⟩ := h.at_ h0; cases hh
    have hL : l = [] := List.eq_nil_of_length_eq_zero h0
    subst hL
    clear h h0 hnil hn
    change Calls Try.prog 44 #[.slice none 0 0] w _
    go_enter Try.func44, Try.ntmps44
    go_wp2
    go_ret
    exact RetEnt.mk (l := []) (World.ownsRow_nil _ _ _ _) (Ext.refl _)
  · obtain ⟨i0, hi, hz0, hz1, hz2⟩ := info_parts ent_info
    have HS := Lib.hid h
    clear h hnil
    generalize hL : l.length = n at *
    replace hL := Lib.hid hL
    go_enter Try.func44, Try.ntmps44
    go_wp2_with (at_builtin; refine wpList_append_sl (w.alloc (.cells #[] 27)) rfl _ _ 22 rfl w.heap.size 27 i0 (.agg #[.int .i64 0, .int .i64 0, .int .i64 0, .int .i64 0, .int .i64 0, .int .i64 0, .int .u64 0, .int .u64 0]) 8 64 Try.underlying22 hi hz0 hz1 hz2 rfl (by decide) _ 0 [] (by rfl) (own_empty w _ _) (some a) n c (l.flatMap entC) (by rfl) (HS.out.ext ((Ext.refl _).alloc _)) entC_one (by omega) (by decide) (by simp) ?_; intro v1 w1 hown1 hb1; simp only [Nat.zero_add, List.nil_append] at hown1; have H := Lib.hid (show RetEnt l w (.returned v1) w1 from RetEnt.mk (by rw [hL.out]; exact hown1) (((Ext.refl w).alloc (.cells #[] 27)).below hb1)); clear hown1 hb1)
    go_ret
    exact H.out
set_option maxRecDepth 100000 in
set_option maxHeartbeats 1000000 in
theorem kOverEntries_own (A : Option Addr) (c : Nat) (l : List (Int × Int × Int × Int × Int × Int × Int × Int)) (base : Nat) (w : World) (h : OwnEnt w base (.slice A l.length c) l.length l) :
    Calls Try.prog 17 #[.slice A l.length c] w fun r w' => (∃ v, r = .returned v) ∧ But (fun k => ∃ o s, A = some ⟨k, o, s⟩) w w' := by
  rcases h.2 with ⟨h', h0⟩ | ⟨g, cap, cur, h', hbg, _⟩
  · injection h' with h1 h2 h3
    subst h1; subst h3
    rw [h2]
    clear h
    go_enter Try.func17, Try.ntmps17
    go_wp2
    go_loopg [2] 0 (fun gh i wx => i = .int .i64 0 ∧ wx = w)
    case atStart => exact ⟨rfl, rfl⟩
    case round =>
      obtain ⟨rfl, rfl⟩ := hrel
      go_wp2
      go_end0
      exact ⟨⟨_, rfl⟩, But.refl _ _⟩
  · injection h' with h1 h2 h3
    subst h1; subst h3
    have hs := (Sl.own h).small
    have HO := Lib.hid h
    clear h
    generalize hn : l.length = n at *
    replace hn := Lib.hid hn
    go_enter Try.func17, Try.ntmps17
    go_wp2
    go_loopg [2] n (fun gh i wx => gh ≤ n ∧ i = .int .i64 ((n - gh : Nat) : Int) ∧ ∃ xs, wx.ownsRow base 27 8 (.slice (some ⟨g, 0, none⟩) n c) n xs ∧ But (fun k => ∃ o s, some (⟨g, 0, none⟩ : Addr) = some ⟨k, o, s⟩) w wx)
    case atStart => exact ⟨Nat.le_refl _, by simp, _, HO.out, But.refl _ _⟩
    case round =>
      obtain ⟨hg, hi, xs, hw, hb⟩ := hrel
      have hl := hw.1
      have HW := Lib.hid hw
      have HBB := Lib.hid hb
      obtain ⟨k, hk⟩ : ∃ k, k = n - gk := ⟨_, rfl⟩
      rw [← hk] at hi
      subst hi
      by_cases hz : gk = 0
      · have hkn : ¬ (k : Int) < n := by omega
        clear hw hb hl hg hk hz
        go_wp2
        go_end0
        exact ⟨⟨_, rfl⟩, by first | exact HBB.out | (have h := HBB.out; simpa using h)⟩
      · have hkn : (k : Int) < n := by omega
        have c0 := (hw.cellAt (k * 8) (by omega)).trans (List.getElem?_eq_getElem (by omega))
        have f0 := hw.frozenAt (k * 8)
        have c1 := (hw.cellAt (k * 8 + 1) (by omega)).trans (List.getElem?_eq_getElem (by omega))
        have f1 := hw.frozenAt (k * 8 + 1)
        have c2 := (hw.cellAt (k * 8 + 2) (by omega)).trans (List.getElem?_eq_getElem (by omega))
        have f2 := hw.frozenAt (k * 8 + 2)
        have c3 := (hw.cellAt (k * 8 + 3) (by omega)).trans (List.getElem?_eq_getElem (by omega))
        have f3 := hw.frozenAt (k * 8 + 3)
        have c4 := (hw.cellAt (k * 8 + 4) (by omega)).trans (List.getElem?_eq_getElem (by omega))
        have f4 := hw.frozenAt (k * 8 + 4)
        have c5 := (hw.cellAt (k * 8 + 5) (by omega)).trans (List.getElem?_eq_getElem (by omega))
        have f5 := hw.frozenAt (k * 8 + 5)
        have c6 := (hw.cellAt (k * 8 + 6) (by omega)).trans (List.getElem?_eq_getElem (by omega))
        have f6 := hw.frozenAt (k * 8 + 6)
        have c7 := (hw.cellAt (k * 8 + 7) (by omega)).trans (List.getElem?_eq_getElem (by omega))
        have f7 := hw.frozenAt (k * 8 + 7)
        generalize xs[k * 8] = u0 at c0
        generalize xs[k * 8 + 1] = u1 at c1
        generalize xs[k * 8 + 2] = u2 at c2
        generalize xs[k * 8 + 3] = u3 at c3
        generalize xs[k * 8 + 4] = u4 at c4
        generalize xs[k * 8 + 5] = u5 at c5
        generalize xs[k * 8 + 6] = u6 at c6
        generalize xs[k * 8 + 7] = u7 at c7
        have HK := Lib.hid (And.intro hk (And.intro hg hz))
        clear hw hb hl hk hg hz
        go_wp2
        go_roundg (gk - 1)
        case measure => have := HK.out; omega
        case rel =>
          exact ⟨by have := HK.out; omega, num_eq (by have := HK.out; omega), _, ((((((((((((((((HW.out).stored (k * 8) (.int .i64 (-77))).1).stored (k * 8 + 1) (.int .i64 0)).1).stored (k * 8 + 2) (.int .i64 0)).1).stored (k * 8 + 3) (.int .i64 0)).1).stored (k * 8 + 4) (.int .i64 0)).1).stored (k * 8 + 5) (.int .i64 0)).1).stored (k * 8 + 6) (.int .u64 0)).1).stored (k * 8 + 7) (.int .u64 0)).1, ((((((((((((((((HBB.out).setCell (p := ⟨g, k * 8, none⟩) ⟨0, none, rfl⟩ _)).setCell (p := ⟨g, k * 8 + 1, none⟩) ⟨0, none, rfl⟩ _)).setCell (p := ⟨g, k * 8 + 2, none⟩) ⟨0, none, rfl⟩ _)).setCell (p := ⟨g, k * 8 + 3, none⟩) ⟨0, none, rfl⟩ _)).setCell (p := ⟨g, k * 8 + 4, none⟩) ⟨0, none, rfl⟩ _)).setCell (p := ⟨g, k * 8 + 5, none⟩) ⟨0, none, rfl⟩ _)).setCell (p := ⟨g, k * 8 + 6, none⟩) ⟨0, none, rfl⟩ _)).setCell (p := ⟨g, k * 8 + 7, none⟩) ⟨0, none, rfl⟩ _)⟩
theorem entC_take {l : List (Int × Int × Int × Int × Int × Int × Int × Int)} {k : Nat} {x : Int × Int × Int × Int × Int × Int × Int × Int} (h : l[k]? = some x) : l.take (k + 1) = l.take k ++ [x] := by
  obtain ⟨hk, rfl⟩ := List.getElem?_eq_some_iff.1 h
  rw [List.take_succ_eq_append_getElem hk]
set_option maxRecDepth 100000 in
theorem entC_eqIn (x0 y0 x1 y1 x2 y2 x3 y3 : Int) (w : World) : (Op.equalIn 9999 24 (.agg #[.int .i64 x0, .int .i64 x1, .int .i64 x2, .int .i64 x3]) (.agg #[.int .i64 y0, .int .i64 y1, .int .i64 y2, .int .i64 y3])).run Try.prog w = .ok (x0 == y0 && x1 == y1 && x2 == y2 && x3 == y3) w := by
  have hS : Try.prog.underlying 24 = some (.struct (Try.prog.fieldsOf 24)) := by kernel_rfl
  have hp : Try.prog.stoodInHeld 24 = false := by kernel_rfl
  rw [show (9999 : Nat) = 9998 + 1 from rfl, run_equalIn_agg w 9998 24 _ _ hS hp]
  simp only [Program.fieldsOf, Try.underlying24]
  go_simp
  by_cases h0 : x0 = y0 <;> by_cases h1 : x1 = y1 <;> by_cases h2 : x2 = y2 <;> by_cases h3 : x3 = y3 <;> simp [h0, h1, h2, h3]
set_option maxRecDepth 100000 in
theorem entC_eq (x0 y0 x1 y1 x2 y2 x3 y3 x4 y4 x5 y5 x6 y6 x7 y7 : Int) (w : World) : (binOp .eql 27 (.agg #[.int .i64 x0, .int .i64 x1, .int .i64 x2, .int .i64 x3, .int .i64 x4, .int .i64 x5, .int .u64 x6, .int .u64 x7]) (.agg #[.int .i64 y0, .int .i64 y1, .int .i64 y2, .int .i64 y3, .int .i64 y4, .int .i64 y5, .int .u64 y6, .int .u64 y7])).run Try.prog w = .ok (.bool (x0 == y0 && x1 == y1 && x2 == y2 && x3 == y3 && x4 == y4 && x5 == y5 && x6 == y6 && x7 == y7)) w := by
  have hS : Try.prog.underlying 27 = some (.struct (Try.prog.fieldsOf 27)) := by kernel_rfl
  have hp : Try.prog.stoodInHeld 27 = false := by kernel_rfl
  rw [run_eql_struct, show (10000 : Nat) = 9999 + 1 from rfl, run_equalIn_agg w 9999 27 _ _ hS hp]
  simp only [Program.fieldsOf, Try.underlying27]
  simp [go_sem, entC_eqIn, Op.eqFields]
  by_cases h0 : x0 = y0 <;> by_cases h1 : x1 = y1 <;> by_cases h2 : x2 = y2 <;> by_cases h3 : x3 = y3 <;> by_cases h4 : x4 = y4 <;> by_cases h5 : x5 = y5 <;> by_cases h6 : x6 = y6 <;> by_cases h7 : x7 = y7 <;> simp [h0, h1, h2, h3, h4, h5, h6, h7]
theorem entC_eqg (op : BinOp) (x y : Operand) (xs ys : Array Value) (w : World) : (eqGuard op 27 x y (.agg xs) (.agg ys)).run Try.prog w = .ok () w := run_eqGuard_agg w op 27 x y xs ys (by kernel_rfl)
set_option maxRecDepth 100000 in
set_option maxHeartbeats 2000000 in
theorem kSameEntries_any (A B : Option Addr) (n c m d : Nat) (l r : List (Int × Int × Int × Int × Int × Int × Int × Int)) (w : World) (h1 : Sl w 8 A n c (l.flatMap entC)) (h2 : Sl w 8 B m d (r.flatMap entC)) :
    Calls Try.prog 16 #[.slice A n c, .slice B m d] w fun e w' => e = .returned (.bool (decide (l = r))) ∧ Ext w w' := by
  have hl := h1.rlen entC_len (by decide)
  have hr := h2.rlen entC_len (by decide)
  have s1 := h1.small
  have s2 := h2.small
  by_cases hnm : n = m
  · subst hnm
    have H1 := Lib.hid h1
    have H2 := Lib.hid h2
    have HL := Lib.hid (And.intro hl hr)
    have e0 : ((n : Int) == (n : Int)) = true := by simp
    have q1 := entC_eq
    have q2 := entC_eqg
    obtain ⟨bb, hbb⟩ : ∃ b, b = decide (l = r) := ⟨_, rfl⟩
    rw [← hbb]
    have HBB := Lib.hid hbb
    clear h1 h2 hl hr hbb
    go_enter Try.func16, Try.ntmps16
    go_wp2
    go_loopg [5, 6] n (fun gh q i wx => gh ≤ n ∧ i = .int .i64 ((n - gh : Nat) : Int) ∧ (∃ b : Bool, q = .bool b ∧ Hid (b = decide (l.take (n - gh) = r.take (n - gh)))) ∧ Ext w wx)
    case atStart => exact ⟨Nat.le_refl _, by simp, ⟨true, rfl, by rw [Nat.sub_self]; exact Lib.hid (by simp)⟩, Ext.refl _⟩
    case round =>
      obtain ⟨hg, hi, ⟨b, rfl, hb⟩, hx⟩ := hrel
      obtain ⟨k, hk⟩ : ∃ k, k = n - gk := ⟨_, rfl⟩
      rw [← hk] at hi hb
      subst hi
      have XR := Lib.hid hx
      cases b
      · have hne : bb = false := by
          have h := hb.out
          rw [HBB.out]
          by_cases hlr : l = r
          · subst hlr; simp at h
          · exact decide_eq_false hlr
        subst hne
        clear hx hk hg hb
        go_wp2
        go_ret
        exact ⟨rfl, XR.out⟩
      · by_cases hz : gk = 0
        · have hkn : ¬ (k : Int) < n := by omega
          have hne : bb = true := by
            have h := hb.out
            rw [HBB.out]
            rw [List.take_of_length_le (by have := HL.out; omega), List.take_of_length_le (by have := HL.out; omega)] at h
            exact h.symm
          subst hne
          clear hx hk hg hb hz
          go_wp2
          go_ret
          exact ⟨rfl, XR.out⟩
        · have hkn : (k : Int) < n := by omega
          have hk1 : k < l.length := by have := HL.out; omega
          have hk2 : k < r.length := by have := HL.out; omega
          obtain ⟨b1, o1, rfl, hb1, hc1⟩ := H1.out.rec_ entC_len (show 0 < n from by omega)
          obtain ⟨b2, o2, rfl, hb2, hc2⟩ := H2.out.rec_ entC_len (show 0 < n from by omega)
          have x_0 := XR.out.has (hc1 k _ (List.getElem?_eq_getElem hk1) 0 _ rfl)
          have x_1 := XR.out.has (hc1 k _ (List.getElem?_eq_getElem hk1) 1 _ rfl)
          have x_2 := XR.out.has (hc1 k _ (List.getElem?_eq_getElem hk1) 2 _ rfl)
          have x_3 := XR.out.has (hc1 k _ (List.getElem?_eq_getElem hk1) 3 _ rfl)
          have x_4 := XR.out.has (hc1 k _ (List.getElem?_eq_getElem hk1) 4 _ rfl)
          have x_5 := XR.out.has (hc1 k _ (List.getElem?_eq_getElem hk1) 5 _ rfl)
          have x_6 := XR.out.has (hc1 k _ (List.getElem?_eq_getElem hk1) 6 _ rfl)
          have x_7 := XR.out.has (hc1 k _ (List.getElem?_eq_getElem hk1) 7 _ rfl)
          have y_0 := XR.out.has (hc2 k _ (List.getElem?_eq_getElem hk2) 0 _ rfl)
          have y_1 := XR.out.has (hc2 k _ (List.getElem?_eq_getElem hk2) 1 _ rfl)
          have y_2 := XR.out.has (hc2 k _ (List.getElem?_eq_getElem hk2) 2 _ rfl)
          have y_3 := XR.out.has (hc2 k _ (List.getElem?_eq_getElem hk2) 3 _ rfl)
          have y_4 := XR.out.has (hc2 k _ (List.getElem?_eq_getElem hk2) 4 _ rfl)
          have y_5 := XR.out.has (hc2 k _ (List.getElem?_eq_getElem hk2) 5 _ rfl)
          have y_6 := XR.out.has (hc2 k _ (List.getElem?_eq_getElem hk2) 6 _ rfl)
          have y_7 := XR.out.has (hc2 k _ (List.getElem?_eq_getElem hk2) 7 _ rfl)
          have t1 := entC_take (List.getElem?_eq_getElem hk1)
          have t2 := entC_take (List.getElem?_eq_getElem hk2)
          obtain ⟨x, hxx⟩ : ∃ x, x = l[k] := ⟨_, rfl⟩
          obtain ⟨y, hyy⟩ : ∃ y, y = r[k] := ⟨_, rfl⟩
          rw [← hxx] at x_0 x_1 x_2 x_3 x_4 x_5 x_6 x_7 t1
          rw [← hyy] at y_0 y_1 y_2 y_3 y_4 y_5 y_6 y_7 t2
          have hstep : Hid (decide (x = y) = decide (l.take (k + 1) = r.take (k + 1))) := Lib.hid (by
            rw [t1, t2]
            have h := hb.out
            have h3 : l.take k = r.take k := by simpa using h.symm
            rw [h3]
            by_cases hxy : x = y
            · subst hxy; simp
            · rw [decide_eq_false hxy]
              exact (decide_eq_false (fun e => hxy (by simpa using e))).symm)
          obtain ⟨x0, x1, x2, x3, x4, x5, x6, x7⟩ := x
          obtain ⟨y0, y1, y2, y3, y4, y5, y6, y7⟩ := y
          simp only at x_0 y_0 x_1 y_1 x_2 y_2 x_3 y_3 x_4 y_4 x_5 y_5 x_6 y_6 x_7 y_7
          rw [Nat.add_zero] at x_0 y_0
          rw [← Nat.add_assoc] at x_1 y_1 x_2 y_2 x_3 y_3 x_4 y_4 x_5 y_5 x_6 y_6 x_7 y_7
          have HK := Lib.hid (And.intro hk (And.intro hg hz))
          clear hx hk hg hb hz hc1 hc2 t1 t2 hxx hyy hk1 hk2
          go_wp2_with fail
          refine wp_region_held_drew (S := fun w' => w'.cell? ⟨b1, o1 + k * 8, none⟩ = some (.int .i64 x0) ∧ w'.cell? ⟨b1, o1 + k * 8 + 1, none⟩ = some (.int .i64 x1) ∧ w'.cell? ⟨b1, o1 + k * 8 + 2, none⟩ = some (.int .i64 x2) ∧ w'.cell? ⟨b1, o1 + k * 8 + 3, none⟩ = some (.int .i64 x3) ∧ w'.cell? ⟨b1, o1 + k * 8 + 4, none⟩ = some (.int .i64 x4) ∧ w'.cell? ⟨b1, o1 + k * 8 + 5, none⟩ = some (.int .i64 x5) ∧ w'.cell? ⟨b1, o1 + k * 8 + 6, none⟩ = some (.int .u64 x6) ∧ w'.cell? ⟨b1, o1 + k * 8 + 7, none⟩ = some (.int .u64 x7) ∧ w'.cell? ⟨b2, o2 + k * 8, none⟩ = some (.int .i64 y0) ∧ w'.cell? ⟨b2, o2 + k * 8 + 1, none⟩ = some (.int .i64 y1) ∧ w'.cell? ⟨b2, o2 + k * 8 + 2, none⟩ = some (.int .i64 y2) ∧ w'.cell? ⟨b2, o2 + k * 8 + 3, none⟩ = some (.int .i64 y3) ∧ w'.cell? ⟨b2, o2 + k * 8 + 4, none⟩ = some (.int .i64 y4) ∧ w'.cell? ⟨b2, o2 + k * 8 + 5, none⟩ = some (.int .i64 y5) ∧ w'.cell? ⟨b2, o2 + k * 8 + 6, none⟩ = some (.int .u64 y6) ∧ w'.cell? ⟨b2, o2 + k * 8 + 7, none⟩ = some (.int .u64 y7)) (by kernel_rfl) (by first | exact ⟨x_0, x_1, x_2, x_3, x_4, x_5, x_6, x_7, y_0, y_1, y_2, y_3, y_4, y_5, y_6, y_7⟩ | (simp [go_sem, World.cell?_alloc_past, x_0, x_1, x_2, x_3, x_4, x_5, x_6, x_7, y_0, y_1, y_2, y_3, y_4, y_5, y_6, y_7]; done)) (fun hHeld => ?_)
          (refine' take_in 0 rfl (by kernel_rfl) (by kernel_rfl) (by kernel_rfl) (fun _ _ _ h => h) (by rfl) (by assumption) ?_ ?_; rotate_left; focus (intro w hSw; (try dsimp only at hSw); go_simp; try with_reducible rfl)); try simp only [Act.put, List.setIfInBounds_toArray, List.set_cons_zero, List.set_cons_succ]
          (refine' take_in 1 rfl (by kernel_rfl) (by kernel_rfl) (by kernel_rfl) (fun _ _ _ h => h) (by rfl) (by assumption) ?_ ?_; rotate_left; focus (intro w hSw; (try dsimp only at hSw); go_simp; try with_reducible rfl)); try simp only [Act.put, List.setIfInBounds_toArray, List.set_cons_zero, List.set_cons_succ]
          (refine' take_in 2 rfl (by kernel_rfl) (by kernel_rfl) (by kernel_rfl) (fun _ _ _ h => h) (by rfl) (by assumption) ?_ ?_; rotate_left; focus (intro w hSw; (try dsimp only at hSw); go_simp; try with_reducible rfl)); try simp only [Act.put, List.setIfInBounds_toArray, List.set_cons_zero, List.set_cons_succ]
          (refine' take_in 3 rfl (by kernel_rfl) (by kernel_rfl) (by kernel_rfl) (fun _ _ _ h => h) (by rfl) (by assumption) ?_ ?_; rotate_left; focus (intro w hSw; (try dsimp only at hSw); go_simp; try with_reducible rfl)); try simp only [Act.put, List.setIfInBounds_toArray, List.set_cons_zero, List.set_cons_succ]
          (refine' take_in 4 rfl (by kernel_rfl) (by kernel_rfl) (by kernel_rfl) (fun _ _ _ h => h) (by rfl) (by assumption) ?_ ?_; rotate_left; focus (intro w hSw; (try dsimp only at hSw); go_simp; try with_reducible rfl)); try simp only [Act.put, List.setIfInBounds_toArray, List.set_cons_zero, List.set_cons_succ]
          (refine' take_in 5 rfl (by kernel_rfl) (by kernel_rfl) (by kernel_rfl) (fun _ _ _ h => h) (by rfl) (by assumption) ?_ ?_; rotate_left; focus (intro w hSw; (try dsimp only at hSw); go_simp; try with_reducible rfl)); try simp only [Act.put, List.setIfInBounds_toArray, List.set_cons_zero, List.set_cons_succ]
          (refine' take_in 6 rfl (by kernel_rfl) (by kernel_rfl) (by kernel_rfl) (fun _ _ _ h => h) (by rfl) (by assumption) ?_ ?_; rotate_left; focus (intro w hSw; (try dsimp only at hSw); go_simp; try with_reducible rfl)); try simp only [Act.put, List.setIfInBounds_toArray, List.set_cons_zero, List.set_cons_succ]
          (refine' take_in 7 rfl (by kernel_rfl) (by kernel_rfl) (by kernel_rfl) (fun _ _ _ h => h) (by rfl) (by assumption) ?_ ?_; rotate_left; focus (intro w hSw; (try dsimp only at hSw); go_simp; try with_reducible rfl)); try simp only [Act.put, List.setIfInBounds_toArray, List.set_cons_zero, List.set_cons_succ]
          (refine' take_in 8 rfl (by kernel_rfl) (by kernel_rfl) (by kernel_rfl) (fun _ _ _ h => h) (by rfl) (by assumption) ?_ ?_; rotate_left; focus (intro w hSw; (try dsimp only at hSw); go_simp; try with_reducible rfl)); try simp only [Act.put, List.setIfInBounds_toArray, List.set_cons_zero, List.set_cons_succ]
          (refine' take_in 9 rfl (by kernel_rfl) (by kernel_rfl) (by kernel_rfl) (fun _ _ _ h => h) (by rfl) (by assumption) ?_ ?_; rotate_left; focus (intro w hSw; (try dsimp only at hSw); go_simp; try with_reducible rfl)); try simp only [Act.put, List.setIfInBounds_toArray, List.set_cons_zero, List.set_cons_succ]
          refine wpAnyH_done (by kernel_rfl) ?_ _
          go_wp2_with fail
          go_roundg (gk - 1)
          case measure => have := HK.out; omega
          case rel => exact ⟨by have := HK.out; omega, num_eq (by have := HK.out; omega), ⟨_, rfl, Lib.hid (by rw [show n - (gk - 1) = k + 1 from by have := HK.out; omega, ← hstep.out]; simp [Bool.and_assoc, Prod.ext_iff]; try (first | rfl | (apply Bool.eq_iff_iff.2; simp; done)))⟩, (by repeat (first | with_reducible exact XR.out | with_reducible refine Ext.drew ?_ | with_reducible refine Ext.drewN ?_ _ | with_reducible refine Ext.alloc ?_ _ | with_reducible refine Ext.setCell ?_ (by first | omega | (simp; done) | (simp; omega)) _))⟩
  · have hne : ¬ l = r := by rintro rfl; omega
    rw [decide_eq_false hne]
    have e0 : ((n : Int) == (m : Int)) = false := by simp; omega
    clear h1 h2 hl hr hne
    go_enter Try.func16, Try.ntmps16
    go_wp2
    go_loopg [5, 6] 0 (fun gh q i wx => q = .bool false ∧ i = .int .i64 0 ∧ wx = w)
    case atStart => exact ⟨rfl, rfl, rfl⟩
    case round =>
      obtain ⟨rfl, rfl, rfl⟩ := hrel
      go_wp2
      go_ret
      exact ⟨rfl, Ext.refl _⟩
end Go.Proofs.Ytnbeejgppooamaa
