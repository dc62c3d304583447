/- Lists of Validators: side by side, others like them, written over. Conditions stand in each lemma. -/
import Derived.Test.YtjdpgapmdmpjjaaKitB
import Derived.Test.YtjdpgapmdmpjjaaRec4
import Derived.Test.YtjdpgapmdmpjjaaAppB
set_option linter.unusedVariables false
set_option linter.unusedSimpArgs false
namespace Go.Proofs.Ytjdpgapmdmpjjaa
open Go.RowKit Go.ChangeShapes Go.WideShapes Go.Deep Go.Joins

/-- a record's cells -/
def valC (x : Int × Int × Int × Int × Bool × Bool) : List Value := [.int .i64 x.1, .int .u64 x.2.1, .int .i64 x.2.2.1, .int .i64 x.2.2.2.1, .bool x.2.2.2.2.1, .bool x.2.2.2.2.2]
theorem valC_len (x : Int × Int × Int × Int × Bool × Bool) : (valC x).length = 6 := rfl
theorem valC_one {l : List (Int × Int × Int × Int × Bool × Bool)} : ∀ u ∈ l.flatMap valC, u.oneCell' = true := by
  intro u hu
  obtain ⟨x, _, hx⟩ := List.mem_flatMap.1 hu
  unfold valC at hx
  simp at hx
  rcases hx with rfl | rfl | rfl | rfl | rfl | rfl <;> rfl
theorem val_info : (Try.prog.info? 96).map (fun i => (i.zero, i.size, i.bytes)) = some (some (.agg #[.int .i64 0, .int .u64 0, .int .i64 0, .int .i64 0, .bool false, .bool false]), 6, 40) := by kernel_rfl
/-- a row of records of one's own -/
def OwnVal (w : World) (base : Nat) (v : Value) (n : Nat) (l : List (Int × Int × Int × Int × Bool × Bool)) : Prop := w.ownsRow base 96 6 v n (l.flatMap valC)
theorem OwnVal.ext {w w' : World} {base n : Nat} {v : Value} {l : List (Int × Int × Int × Int × Bool × Bool)} (h : OwnVal w base v n l) (hx : Ext w w') : OwnVal w' base v n l := own_keep h hx
theorem OwnVal.sl {w : World} {base n c : Nat} {A : Option Addr} {l : List (Int × Int × Int × Int × Bool × Bool)} (h : OwnVal w base (.slice A n c) n l) : Sl w 6 A n c (l.flatMap valC) := Sl.own h
theorem OwnVal.in_ {w : World} {base n c : Nat} {A : Option Addr} {l : List (Int × Int × Int × Int × Bool × Bool)} (h : OwnVal w base (.slice A n c) n l) : ∀ k o s, A = some ⟨k, o, s⟩ → base ≤ k ∧ k < w.heap.size := by
  intro k o s e'
  subst e'
  exact World.ownsRow.lt h k rfl
theorem OwnVal.nil (w : World) (base : Nat) : OwnVal w base (.slice none 0 0) 0 [] := World.ownsRow_nil _ _ _ _
/-- records handed back -/
def RetVal (l : List (Int × Int × Int × Int × Bool × Bool)) (w : World) (e : Ending) (w' : World) : Prop := ∃ A c, e = .returned (.slice A l.length c) ∧ (A = none → c = 0) ∧ OwnVal w' w.heap.size (.slice A l.length c) l.length l ∧ Ext w w'
theorem RetVal.mk {l : List (Int × Int × Int × Int × Bool × Bool)} {w w' : World} {v : Value} (h : w'.ownsRow w.heap.size 96 6 v l.length (l.flatMap valC)) (hx : Ext w w') : RetVal l w (.returned v) w' := by
  obtain ⟨A, c, rfl, h1, h2⟩ := own_parts2 h
  exact ⟨A, c, rfl, h1, h, hx⟩
set_option maxRecDepth 100000 in
theorem kCopyVals_any (A : Option Addr) (c : Nat) (l : List (Int × Int × Int × Int × Bool × Bool)) (w : World) (h : Sl w 6 A l.length c (l.flatMap valC)) (hn : l.length < 1099511627776) :
    Calls Try.prog 32 #[.slice A l.length c] w (RetVal l w) := by
  obtain ⟨i0, hi, hz0, hz1, hz2⟩ := info_parts val_info
  have HS := Lib.hid h
  clear h
  generalize hL : l.length = n at *
  replace hL := Lib.hid hL
  go_enter Try.func32, Try.ntmps32
  go_wp2_with (at_builtin; refine wpList_append_sl (w.alloc (.cells #[] 96)) rfl _ _ 40 rfl w.heap.size 96 i0 (.agg #[.int .i64 0, .int .u64 0, .int .i64 0, .int .i64 0, .bool false, .bool false]) 6 40 Try.underlying40 hi hz0 hz1 hz2 rfl (by decide) _ 0 [] (by rfl) (own_empty w _ _) A n c (l.flatMap valC) (by rfl) (HS.out.ext ((Ext.refl _).alloc _)) valC_one (by omega) (by decide) (by simp) ?_; intro v1 w1 hown1 hb1; simp only [Nat.zero_add, List.nil_append] at hown1; have H := Lib.hid (show RetVal l w (.returned v1) w1 from RetVal.mk (by rw [hL.out]; exact hown1) (((Ext.refl w).alloc (.cells #[] 96)).below hb1)); clear hown1 hb1)
  go_ret
  exact H.out
set_option maxRecDepth 100000 in
theorem vClone_any (A : Option Addr) (c : Nat) (l : List (Int × Int × Int × Int × Bool × Bool)) (w : World) (h : Sl w 6 A l.length c (l.flatMap valC)) (hn : l.length < 1099511627776) (hnil : A = none → c = 0) :
    Calls Try.prog 97 #[.slice A l.length c] w (RetVal l w) := by
  have q22 : ∀ (w : World) (a : Option Addr) (n c n' c' : Nat), (binOp .eql 40 (.slice a n c) (.slice none n' c')).run Try.prog w = .ok (.bool a.isNone) w := fun w a n c n' c' => Go.Lib.run_eql_slice_nil w _ _ a n c n' c' Try.underlying40
  rcases A with _ | a
  · have hc := hnil rfl
    subst hc
    have h0 : l.length = 0 := by
      rcases Nat.eq_zero_or_pos l.length with h0 | h0
      · exact h0
      · obtain ⟨_, _, hh, _⟩ := h.at_ h0; cases hh
    have hL : l = [] := List.eq_nil_of_length_eq_zero h0
    subst hL
    clear h h0 hnil hn
    change Calls Try.prog 97 #[.slice none 0 0] w _
    go_enter Try.func97, Try.ntmps97
    go_wp2
    go_ret
    exact RetVal.mk (l := []) (World.ownsRow_nil _ _ _ _) (Ext.refl _)
  · obtain ⟨i0, hi, hz0, hz1, hz2⟩ := info_parts val_info
    have HS := Lib.hid h
    clear h hnil
    generalize hL : l.length = n at *
    replace hL := Lib.hid hL
    go_enter Try.func97, Try.ntmps97
    go_wp2_with (at_builtin; refine wpList_append_sl (w.alloc (.cells #[] 96)) rfl _ _ 40 rfl w.heap.size 96 i0 (.agg #[.int .i64 0, .int .u64 0, .int .i64 0, .int .i64 0, .bool false, .bool false]) 6 40 Try.underlying40 hi hz0 hz1 hz2 rfl (by decide) _ 0 [] (by rfl) (own_empty w _ _) (some a) n c (l.flatMap valC) (by rfl) (HS.out.ext ((Ext.refl _).alloc _)) valC_one (by omega) (by decide) (by simp) ?_; intro v1 w1 hown1 hb1; simp only [Nat.zero_add, List.nil_append] at hown1; have H := Lib.hid (show RetVal l w (.returned v1) w1 from RetVal.mk (by rw [hL.out]; exact hown1) (((Ext.refl w).alloc (.cells #[] 96)).below hb1)); clear hown1 hb1)
    go_ret
    exact H.out
set_option maxRecDepth 100000 in
set_option maxHeartbeats 1000000 in
theorem kOverVals_own (A : Option Addr) (c : Nat) (l : List (Int × Int × Int × Int × Bool × Bool)) (base : Nat) (w : World) (h : OwnVal w base (.slice A l.length c) l.length l) :
    Calls Try.prog 36 #[.slice A l.length c] w fun r w' => (∃ v, r = .returned v) ∧ But (fun k => ∃ o s, A = some ⟨k, o, s⟩) w w' := by
  rcases h.2 with ⟨h', h0⟩ | ⟨g, cap, cur, h', hbg, _⟩
  · injection h' with h1 h2 h3
    subst h1; subst h3
    rw [h2]
    clear h
    go_enter Try.func36, Try.ntmps36
    go_wp2
    go_loopg [2] 0 (fun gh i wx => i = .int .i64 0 ∧ wx = w)
    case atStart => exact ⟨rfl, rfl⟩
    case round =>
      obtain ⟨rfl, rfl⟩ := hrel
      go_wp2
      go_end0
      exact ⟨⟨_, rfl⟩, But.refl _ _⟩
  · injection h' with h1 h2 h3
    subst h1; subst h3
    have hs := (Sl.own h).small
    have HO := Lib.hid h
    clear h
    generalize hn : l.length = n at *
    replace hn := Lib.hid hn
    go_enter Try.func36, Try.ntmps36
    go_wp2
    go_loopg [2] n (fun gh i wx => gh ≤ n ∧ i = .int .i64 ((n - gh : Nat) : Int) ∧ ∃ xs, wx.ownsRow base 96 6 (.slice (some ⟨g, 0, none⟩) n c) n xs ∧ But (fun k => ∃ o s, some (⟨g, 0, none⟩ : Addr) = some ⟨k, o, s⟩) w wx)
    case atStart => exact ⟨Nat.le_refl _, by simp, _, HO.out, But.refl _ _⟩
    case round =>
      obtain ⟨hg, hi, xs, hw, hb⟩ := hrel
      have hl := hw.1
      have HW := Lib.hid hw
      have HBB := Lib.hid hb
      obtain ⟨k, hk⟩ : ∃ k, k = n - gk := ⟨_, rfl⟩
      rw [← hk] at hi
      subst hi
      by_cases hz : gk = 0
      · have hkn : ¬ (k : Int) < n := by omega
        clear hw hb hl hg hk hz
        go_wp2
        go_end0
        exact ⟨⟨_, rfl⟩, by first | exact HBB.out | (have h := HBB.out; simpa using h)⟩
      · have hkn : (k : Int) < n := by omega
        have c0 := (hw.cellAt (k * 6) (by omega)).trans (List.getElem?_eq_getElem (by omega))
        have f0 := hw.frozenAt (k * 6)
        have c1 := (hw.cellAt (k * 6 + 1) (by omega)).trans (List.getElem?_eq_getElem (by omega))
        have f1 := hw.frozenAt (k * 6 + 1)
        have c2 := (hw.cellAt (k * 6 + 2) (by omega)).trans (List.getElem?_eq_getElem (by omega))
        have f2 := hw.frozenAt (k * 6 + 2)
        have c3 := (hw.cellAt (k * 6 + 3) (by omega)).trans (List.getElem?_eq_getElem (by omega))
        have f3 := hw.frozenAt (k * 6 + 3)
        have c4 := (hw.cellAt (k * 6 + 4) (by omega)).trans (List.getElem?_eq_getElem (by omega))
        have f4 := hw.frozenAt (k * 6 + 4)
        have c5 := (hw.cellAt (k * 6 + 5) (by omega)).trans (List.getElem?_eq_getElem (by omega))
        have f5 := hw.frozenAt (k * 6 + 5)
        generalize xs[k * 6] = u0 at c0
        generalize xs[k * 6 + 1] = u1 at c1
        generalize xs[k * 6 + 2] = u2 at c2
        generalize xs[k * 6 + 3] = u3 at c3
        generalize xs[k * 6 + 4] = u4 at c4
        generalize xs[k * 6 + 5] = u5 at c5
        have HK := Lib.hid (And.intro hk (And.intro hg hz))
        clear hw hb hl hk hg hz
        go_wp2
        go_roundg (gk - 1)
        case measure => have := HK.out; omega
        case rel =>
          exact ⟨by have := HK.out; omega, num_eq (by have := HK.out; omega), _, ((((((((((((HW.out).stored (k * 6) (.int .i64 (-77))).1).stored (k * 6 + 1) (.int .u64 0)).1).stored (k * 6 + 2) (.int .i64 0)).1).stored (k * 6 + 3) (.int .i64 0)).1).stored (k * 6 + 4) (.bool false)).1).stored (k * 6 + 5) (.bool false)).1, ((((((((((((HBB.out).setCell (p := ⟨g, k * 6, none⟩) ⟨0, none, rfl⟩ _)).setCell (p := ⟨g, k * 6 + 1, none⟩) ⟨0, none, rfl⟩ _)).setCell (p := ⟨g, k * 6 + 2, none⟩) ⟨0, none, rfl⟩ _)).setCell (p := ⟨g, k * 6 + 3, none⟩) ⟨0, none, rfl⟩ _)).setCell (p := ⟨g, k * 6 + 4, none⟩) ⟨0, none, rfl⟩ _)).setCell (p := ⟨g, k * 6 + 5, none⟩) ⟨0, none, rfl⟩ _)⟩
theorem valC_take {l : List (Int × Int × Int × Int × Bool × Bool)} {k : Nat} {x : Int × Int × Int × Int × Bool × Bool} (h : l[k]? = some x) : l.take (k + 1) = l.take k ++ [x] := by
  obtain ⟨hk, rfl⟩ := List.getElem?_eq_some_iff.1 h
  rw [List.take_succ_eq_append_getElem hk]
theorem valC_eq (x0 y0 x1 y1 x2 y2 x3 y3 : Int) (x4 y4 x5 y5 : Bool) (w : World) : (binOp .eql 96 (.agg #[.int .i64 x0, .int .u64 x1, .int .i64 x2, .int .i64 x3, .bool x4, .bool x5]) (.agg #[.int .i64 y0, .int .u64 y1, .int .i64 y2, .int .i64 y3, .bool y4, .bool y5])).run Try.prog w = .ok (.bool (x0 == y0 && x1 == y1 && x2 == y2 && x3 == y3 && x4 == y4 && x5 == y5)) w := by
  have hS : Try.prog.underlying 96 = some (.struct (Try.prog.fieldsOf 96)) := by kernel_rfl
  have hp : Try.prog.stoodInHeld 96 = false := by kernel_rfl
  rw [run_eql_struct, show (10000 : Nat) = 9999 + 1 from rfl, run_equalIn_agg w 9999 96 _ _ hS hp]
  simp only [Program.fieldsOf, Try.underlying96]
  go_simp
  by_cases h0 : x0 = y0 <;> by_cases h1 : x1 = y1 <;> by_cases h2 : x2 = y2 <;> by_cases h3 : x3 = y3 <;> by_cases h4 : x4 = y4 <;> by_cases h5 : x5 = y5 <;> simp [h0, h1, h2, h3, h4, h5]
theorem valC_eqg (op : BinOp) (x y : Operand) (xs ys : Array Value) (w : World) : (eqGuard op 96 x y (.agg xs) (.agg ys)).run Try.prog w = .ok () w := run_eqGuard_agg w op 96 x y xs ys (by kernel_rfl)
set_option maxRecDepth 100000 in
set_option maxHeartbeats 2000000 in
theorem kSameVals_any (A B : Option Addr) (n c m d : Nat) (l r : List (Int × Int × Int × Int × Bool × Bool)) (w : World) (h1 : Sl w 6 A n c (l.flatMap valC)) (h2 : Sl w 6 B m d (r.flatMap valC)) :
    Calls Try.prog 35 #[.slice A n c, .slice B m d] w fun e w' => e = .returned (.bool (decide (l = r))) ∧ Ext w w' := by
  have hl := h1.rlen valC_len (by decide)
  have hr := h2.rlen valC_len (by decide)
  have s1 := h1.small
  have s2 := h2.small
  by_cases hnm : n = m
  · subst hnm
    have H1 := Lib.hid h1
    have H2 := Lib.hid h2
    have HL := Lib.hid (And.intro hl hr)
    have e0 : ((n : Int) == (n : Int)) = true := by simp
    have q1 := valC_eq
    have q2 := valC_eqg
    obtain ⟨bb, hbb⟩ : ∃ b, b = decide (l = r) := ⟨_, rfl⟩
    rw [← hbb]
    have HBB := Lib.hid hbb
    clear h1 h2 hl hr hbb
    go_enter Try.func35, Try.ntmps35
    go_wp2
    go_loopg [5, 6] n (fun gh q i wx => gh ≤ n ∧ i = .int .i64 ((n - gh : Nat) : Int) ∧ (∃ b : Bool, q = .bool b ∧ Hid (b = decide (l.take (n - gh) = r.take (n - gh)))) ∧ Ext w wx)
    case atStart => exact ⟨Nat.le_refl _, by simp, ⟨true, rfl, by rw [Nat.sub_self]; exact Lib.hid (by simp)⟩, Ext.refl _⟩
    case round =>
      obtain ⟨hg, hi, ⟨b, rfl, hb⟩, hx⟩ := hrel
      obtain ⟨k, hk⟩ : ∃ k, k = n - gk := ⟨_, rfl⟩
      rw [← hk] at hi hb
      subst hi
      have XR := Lib.hid hx
      cases b
      · have hne : bb = false := by
          have h := hb.out
          rw [HBB.out]
          by_cases hlr : l = r
          · subst hlr; simp at h
          · exact decide_eq_false hlr
        subst hne
        clear hx hk hg hb
        go_wp2
        go_ret
        exact ⟨rfl, XR.out⟩
      · by_cases hz : gk = 0
        · have hkn : ¬ (k : Int) < n := by omega
          have hne : bb = true := by
            have h := hb.out
            rw [HBB.out]
            rw [List.take_of_length_le (by have := HL.out; omega), List.take_of_length_le (by have := HL.out; omega)] at h
            exact h.symm
          subst hne
          clear hx hk hg hb hz
          go_wp2
          go_ret
          exact ⟨rfl, XR.out⟩
        · have hkn : (k : Int) < n := by omega
          have hk1 : k < l.length := by have := HL.out; omega
          have hk2 : k < r.length := by have := HL.out; omega
          obtain ⟨b1, o1, rfl, hb1, hc1⟩ := H1.out.rec_ valC_len (show 0 < n from by omega)
          obtain ⟨b2, o2, rfl, hb2, hc2⟩ := H2.out.rec_ valC_len (show 0 < n from by omega)
          have x_0 := XR.out.has (hc1 k _ (List.getElem?_eq_getElem hk1) 0 _ rfl)
          have x_1 := XR.out.has (hc1 k _ (List.getElem?_eq_getElem hk1) 1 _ rfl)
          have x_2 := XR.out.has (hc1 k _ (List.getElem?_eq_getElem hk1) 2 _ rfl)
          have x_3 := XR.out.has (hc1 k _ (List.getElem?_eq_getElem hk1) 3 _ rfl)
          have x_4 := XR.out.has (hc1 k _ (List.getElem?_eq_getElem hk1) 4 _ rfl)
          have x_5 := XR.out.has (hc1 k _ (List.getElem?_eq_getElem hk1) 5 _ rfl)
          have y_0 := XR.out.has (hc2 k _ (List.getElem?_eq_getElem hk2) 0 _ rfl)
          have y_1 := XR.out.has (hc2 k _ (List.getElem?_eq_getElem hk2) 1 _ rfl)
          have y_2 := XR.out.has (hc2 k _ (List.getElem?_eq_getElem hk2) 2 _ rfl)
          have y_3 := XR.out.has (hc2 k _ (List.getElem?_eq_getElem hk2) 3 _ rfl)
          have y_4 := XR.out.has (hc2 k _ (List.getElem?_eq_getElem hk2) 4 _ rfl)
          have y_5 := XR.out.has (hc2 k _ (List.getElem?_eq_getElem hk2) 5 _ rfl)
          have t1 := valC_take (List.getElem?_eq_getElem hk1)
          have t2 := valC_take (List.getElem?_eq_getElem hk2)
          obtain ⟨x, hxx⟩ : ∃ x, x = l[k] := ⟨_, rfl⟩
          obtain ⟨y, hyy⟩ : ∃ y, y = r[k] := ⟨_, rfl⟩
          rw [← hxx] at x_0 x_1 x_2 x_3 x_4 x_5 t1
          rw [← hyy] at y_0 y_1 y_2 y_3 y_4 y_5 t2
          have hstep : Hid (decide (x = y) = decide (l.take (k + 1) = r.take (k + 1))) := Lib.hid (by
            rw [t1, t2]
            have h := hb.out
            have h3 : l.take k = r.take k := by simpa using h.symm
            rw [h3]
            by_cases hxy : x = y
            · subst hxy; simp
            · rw [decide_eq_false hxy]
              exact (decide_eq_false (fun e => hxy (by simpa using e))).symm)
          obtain ⟨x0, x1, x2, x3, x4, x5⟩ := x
          obtain ⟨y0, y1, y2, y3, y4, y5⟩ := y
          simp only at x_0 y_0 x_1 y_1 x_2 y_2 x_3 y_3 x_4 y_4 x_5 y_5
          rw [Nat.add_zero] at x_0 y_0
          rw [← Nat.add_assoc] at x_1 y_1 x_2 y_2 x_3 y_3 x_4 y_4 x_5 y_5
          have HK := Lib.hid (And.intro hk (And.intro hg hz))
          clear hx hk hg hb hz hc1 hc2 t1 t2 hxx hyy hk1 hk2
          go_wp2_with fail
          refine wp_region_held_drew (S := fun w' => w'.cell? ⟨b1, o1 + k * 6, none⟩ = some (.int .i64 x0) ∧ w'.cell? ⟨b1, o1 + k * 6 + 1, none⟩ = some (.int .u64 x1) ∧ w'.cell? ⟨b1, o1 + k * 6 + 2, none⟩ = some (.int .i64 x2) ∧ w'.cell? ⟨b1, o1 + k * 6 + 3, none⟩ = some (.int .i64 x3) ∧ w'.cell? ⟨b1, o1 + k * 6 + 4, none⟩ = some (.bool x4) ∧ w'.cell? ⟨b1, o1 + k * 6 + 5, none⟩ = some (.bool x5) ∧ w'.cell? ⟨b2, o2 + k * 6, none⟩ = some (.int .i64 y0) ∧ w'.cell? ⟨b2, o2 + k * 6 + 1, none⟩ = some (.int .u64 y1) ∧ w'.cell? ⟨b2, o2 + k * 6 + 2, none⟩ = some (.int .i64 y2) ∧ w'.cell? ⟨b2, o2 + k * 6 + 3, none⟩ = some (.int .i64 y3) ∧ w'.cell? ⟨b2, o2 + k * 6 + 4, none⟩ = some (.bool y4) ∧ w'.cell? ⟨b2, o2 + k * 6 + 5, none⟩ = some (.bool y5)) (by kernel_rfl) (by first | exact ⟨x_0, x_1, x_2, x_3, x_4, x_5, y_0, y_1, y_2, y_3, y_4, y_5⟩ | (simp [go_sem, World.cell?_alloc_past, x_0, x_1, x_2, x_3, x_4, x_5, y_0, y_1, y_2, y_3, y_4, y_5]; done)) (fun hHeld => ?_)
          (refine' take_in 0 rfl (by kernel_rfl) (by kernel_rfl) (by kernel_rfl) (fun _ _ _ h => h) (by rfl) (by assumption) ?_ ?_; rotate_left; focus (intro w hSw; (try dsimp only at hSw); go_simp; try with_reducible rfl)); try simp only [Act.put, List.setIfInBounds_toArray, List.set_cons_zero, List.set_cons_succ]
          (refine' take_in 1 rfl (by kernel_rfl) (by kernel_rfl) (by kernel_rfl) (fun _ _ _ h => h) (by rfl) (by assumption) ?_ ?_; rotate_left; focus (intro w hSw; (try dsimp only at hSw); go_simp; try with_reducible rfl)); try simp only [Act.put, List.setIfInBounds_toArray, List.set_cons_zero, List.set_cons_succ]
          (refine' take_in 2 rfl (by kernel_rfl) (by kernel_rfl) (by kernel_rfl) (fun _ _ _ h => h) (by rfl) (by assumption) ?_ ?_; rotate_left; focus (intro w hSw; (try dsimp only at hSw); go_simp; try with_reducible rfl)); try simp only [Act.put, List.setIfInBounds_toArray, List.set_cons_zero, List.set_cons_succ]
          (refine' take_in 3 rfl (by kernel_rfl) (by kernel_rfl) (by kernel_rfl) (fun _ _ _ h => h) (by rfl) (by assumption) ?_ ?_; rotate_left; focus (intro w hSw; (try dsimp only at hSw); go_simp; try with_reducible rfl)); try simp only [Act.put, List.setIfInBounds_toArray, List.set_cons_zero, List.set_cons_succ]
          (refine' take_in 4 rfl (by kernel_rfl) (by kernel_rfl) (by kernel_rfl) (fun _ _ _ h => h) (by rfl) (by assumption) ?_ ?_; rotate_left; focus (intro w hSw; (try dsimp only at hSw); go_simp; try with_reducible rfl)); try simp only [Act.put, List.setIfInBounds_toArray, List.set_cons_zero, List.set_cons_succ]
          (refine' take_in 5 rfl (by kernel_rfl) (by kernel_rfl) (by kernel_rfl) (fun _ _ _ h => h) (by rfl) (by assumption) ?_ ?_; rotate_left; focus (intro w hSw; (try dsimp only at hSw); go_simp; try with_reducible rfl)); try simp only [Act.put, List.setIfInBounds_toArray, List.set_cons_zero, List.set_cons_succ]
          (refine' take_in 6 rfl (by kernel_rfl) (by kernel_rfl) (by kernel_rfl) (fun _ _ _ h => h) (by rfl) (by assumption) ?_ ?_; rotate_left; focus (intro w hSw; (try dsimp only at hSw); go_simp; try with_reducible rfl)); try simp only [Act.put, List.setIfInBounds_toArray, List.set_cons_zero, List.set_cons_succ]
          (refine' take_in 7 rfl (by kernel_rfl) (by kernel_rfl) (by kernel_rfl) (fun _ _ _ h => h) (by rfl) (by assumption) ?_ ?_; rotate_left; focus (intro w hSw; (try dsimp only at hSw); go_simp; try with_reducible rfl)); try simp only [Act.put, List.setIfInBounds_toArray, List.set_cons_zero, List.set_cons_succ]
          (refine' take_in 8 rfl (by kernel_rfl) (by kernel_rfl) (by kernel_rfl) (fun _ _ _ h => h) (by rfl) (by assumption) ?_ ?_; rotate_left; focus (intro w hSw; (try dsimp only at hSw); go_simp; try with_reducible rfl)); try simp only [Act.put, List.setIfInBounds_toArray, List.set_cons_zero, List.set_cons_succ]
          (refine' take_in 9 rfl (by kernel_rfl) (by kernel_rfl) (by kernel_rfl) (fun _ _ _ h => h) (by rfl) (by assumption) ?_ ?_; rotate_left; focus (intro w hSw; (try dsimp only at hSw); go_simp; try with_reducible rfl)); try simp only [Act.put, List.setIfInBounds_toArray, List.set_cons_zero, List.set_cons_succ]
          refine wpAnyH_done (by kernel_rfl) ?_ _
          go_wp2_with fail
          go_roundg (gk - 1)
          case measure => have := HK.out; omega
          case rel => exact ⟨by have := HK.out; omega, num_eq (by have := HK.out; omega), ⟨_, rfl, Lib.hid (by rw [show n - (gk - 1) = k + 1 from by have := HK.out; omega, ← hstep.out]; simp [Bool.and_assoc, Prod.ext_iff]; try (first | rfl | (apply Bool.eq_iff_iff.2; simp; done)))⟩, (by repeat (first | with_reducible exact XR.out | with_reducible refine Ext.drew ?_ | with_reducible refine Ext.drewN ?_ _ | with_reducible refine Ext.alloc ?_ _ | with_reducible refine Ext.setCell ?_ (by first | omega | (simp; done) | (simp; omega)) _))⟩
  · have hne : ¬ l = r := by rintro rfl; omega
    rw [decide_eq_false hne]
    have e0 : ((n : Int) == (m : Int)) = false := by simp; omega
    clear h1 h2 hl hr hne
    go_enter Try.func35, Try.ntmps35
    go_wp2
    go_loopg [5, 6] 0 (fun gh q i wx => q = .bool false ∧ i = .int .i64 0 ∧ wx = w)
    case atStart => exact ⟨rfl, rfl, rfl⟩
    case round =>
      obtain ⟨rfl, rfl, rfl⟩ := hrel
      go_wp2
      go_ret
      exact ⟨rfl, Ext.refl _⟩
end Go.Proofs.Ytjdpgapmdmpjjaa
