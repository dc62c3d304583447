/- Lists of bools: side by side, others like them, written over. Conditions stand in each lemma. -/
import Derived.Test.YtplmgcbjfmdebaaBase
import Derived.Test.YtplmgcbjfmdebaaListWord
set_option linter.unusedVariables false
set_option linter.unusedSimpArgs false
namespace Go.Proofs.Ytplmgcbjfmdebaa
open Go.RowKit Go.ChangeShapes Go.WideShapes Go.Deep

theorem bv_len (l : List Bool) : (bv l).length = l.length := List.length_map _
theorem bv_get (l : List Bool) (j : Nat) (h : j < l.length) : (bv l)[j]? = some (.bool (l.getD j false)) := by
  unfold bv
  rw [List.getElem?_map, List.getElem?_eq_getElem h, List.getD_eq_getElem?_getD, List.getElem?_eq_getElem h]
  rfl
theorem bv_one {l : List Bool} : ∀ u ∈ bv l, u.oneCell' = true := by
  intro u hu
  obtain ⟨x, _, rfl⟩ := List.mem_map.1 hu
  rfl
theorem bv_snoc (l : List Bool) (x : Bool) : bv l ++ [Value.bool x] = bv (l ++ [x]) := by simp [bv]
theorem bv_set (l : List Bool) (k : Nat) (x : Bool) : (bv l).set k (.bool x) = bv (l.set k x) := by unfold bv; rw [List.map_set]
theorem Sl.blen {w : World} {A : Option Addr} {n c : Nat} {l : List Bool} (h : Sl w 1 A n c (bv l)) : l.length = n := by
  have := h.len; rw [bv_len] at this; omega
theorem Sl.bcell {w : World} {A : Option Addr} {n c : Nat} {l : List Bool} (h : Sl w 1 A n c (bv l)) {j : Nat} (hj : j < n) :
    ∃ b o, A = some ⟨b, o, none⟩ ∧ b < w.heap.size ∧ w.cell? ⟨b, o + j, none⟩ = some (.bool (l.getD j false)) := by
  obtain ⟨b, o, rfl, hb, hc⟩ := h.at_ (show 0 < n by omega)
  exact ⟨b, o, rfl, hb, hc j _ (bv_get l j (by have := h.blen; omega))⟩

theorem infoBool : (Try.prog.info? 4).map (fun i => (i.zero, i.size, i.bytes)) = some (some (.bool false), 1, 1) := by kernel_rfl
/-- a row of numbers of one's own -/
def OwnBool (w : World) (base : Nat) (v : Value) (n : Nat) (l : List Bool) : Prop := w.ownsRow base 4 1 v n (bv l)
theorem OwnBool.ext {w w' : World} {base n : Nat} {v : Value} {l : List Bool} (h : OwnBool w base v n l) (hx : Ext w w') : OwnBool w' base v n l := own_keep h hx
theorem OwnBool.sl {w : World} {base n c : Nat} {A : Option Addr} {l : List Bool} (h : OwnBool w base (.slice A n c) n l) : Sl w 1 A n c (bv l) := Sl.own h
theorem OwnBool.in_ {w : World} {base n c : Nat} {A : Option Addr} {l : List Bool} (h : OwnBool w base (.slice A n c) n l) : ∀ k o s, A = some ⟨k, o, s⟩ → base ≤ k ∧ k < w.heap.size := by
  intro k o s e'
  subst e'
  exact World.ownsRow.lt h k rfl
theorem OwnBool.nil (w : World) (base : Nat) : OwnBool w base (.slice none 0 0) 0 [] := World.ownsRow_nil _ _ _ _
theorem OwnBool.lower {w : World} {base b' n : Nat} {v : Value} {l : List Bool} (h : OwnBool w base v n l) (hb : b' ≤ base) : OwnBool w b' v n l := own_lower h hb
/-- numbers handed back -/
def RetBool (l : List Bool) (w : World) (e : Ending) (w' : World) : Prop := ∃ A c, e = .returned (.slice A l.length c) ∧ (A = none → c = 0) ∧ OwnBool w' w.heap.size (.slice A l.length c) l.length l ∧ Ext w w'
theorem RetBool.mk {l : List Bool} {w w' : World} {v : Value} (h : w'.ownsRow w.heap.size 4 1 v l.length (bv l)) (hx : Ext w w') : RetBool l w (.returned v) w' := by
  obtain ⟨A, c, rfl, h1, h2⟩ := own_parts2 h
  exact ⟨A, c, rfl, h1, h, hx⟩
theorem iv_takeBool {l : List Bool} {k : Nat} {x : Bool} (h : l[k]? = some x) : l.take (k + 1) = l.take k ++ [x] := by
  obtain ⟨hk, rfl⟩ := List.getElem?_eq_some_iff.1 h
  rw [List.take_succ_eq_append_getElem hk]
set_option maxRecDepth 100000 in
theorem copyBools17_any (A : Option Addr) (n c : Nat) (l : List Bool) (w : World) (h : Sl w 1 A n c (bv l)) (hn : n < 1099511627776) :
    Calls Try.prog 11 #[.slice A n c] w (RetBool l w) := by
  obtain ⟨i0, hi, hz0, hz1, hz2⟩ := info_parts infoBool
  have hL := h.blen
  have HS := Lib.hid h
  clear h
  replace hL := Lib.hid hL
  go_enter Try.func11, Try.ntmps11
  go_wp2_with (at_builtin; refine wpList_append_sl (w.alloc (.cells #[] 4)) rfl _ _ 23 rfl w.heap.size 4 i0 (.bool false) 1 1 Try.underlying23 hi hz0 hz1 hz2 rfl (by decide) _ 0 [] (by rfl) (own_empty w _ _) A n c (bv l) (by rfl) (HS.out.ext ((Ext.refl _).alloc _)) bv_one (by omega) (by decide) (by simp) ?_; intro v1 w1 hown1 hb1; simp only [Nat.zero_add, List.nil_append] at hown1; have H := Lib.hid (show RetBool l w (.returned v1) w1 from RetBool.mk (by rw [hL.out]; exact hown1) (((Ext.refl w).alloc (.cells #[] 4)).below hb1)); clear hown1 hb1)
  go_ret
  exact H.out
set_option maxRecDepth 100000 in
set_option maxHeartbeats 1000000 in
theorem overBools17_own (A : Option Addr) (n c : Nat) (l : List Bool) (base : Nat) (w : World) (h : OwnBool w base (.slice A n c) n l) :
    Calls Try.prog 19 #[.slice A n c] w fun r w' => (∃ v, r = .returned v) ∧ But (fun k => ∃ o s, A = some ⟨k, o, s⟩) w w' := by
  rcases h.2 with ⟨h', h0⟩ | ⟨g, cap, cur, h', hbg, _⟩
  · injection h' with h1 h2 h3
    subst h1; subst h3
    rw [h2]
    clear h
    go_enter Try.func19, Try.ntmps19
    go_wp2
    go_loopg [2] 0 (fun gh i wx => i = .int .i64 0 ∧ wx = w)
    case atStart => exact ⟨rfl, rfl⟩
    case round =>
      obtain ⟨rfl, rfl⟩ := hrel
      go_wp2
      go_end0
      exact ⟨⟨_, rfl⟩, But.refl _ _⟩
  · injection h' with h1 h2 h3
    subst h1; subst h3
    have hs := (Sl.own h).small
    have HO := Lib.hid h
    clear h
    go_enter Try.func19, Try.ntmps19
    go_wp2
    go_loopg [2] n (fun gh i wx => gh ≤ n ∧ i = .int .i64 ((n - gh : Nat) : Int) ∧ ∃ xs : List Bool, wx.ownsRow base 4 1 (.slice (some ⟨g, 0, none⟩) n c) n (bv xs) ∧ But (fun k => ∃ o s, some (⟨g, 0, none⟩ : Addr) = some ⟨k, o, s⟩) w wx)
    case atStart => exact ⟨Nat.le_refl _, by simp, _, HO.out, But.refl _ _⟩
    case round =>
      obtain ⟨hg, hi, xs, hw, hb⟩ := hrel
      have hl := hw.1
      rw [bv_len] at hl
      have HW := Lib.hid hw
      have HBB := Lib.hid hb
      obtain ⟨k, hk⟩ : ∃ k, k = n - gk := ⟨_, rfl⟩
      rw [← hk] at hi
      subst hi
      by_cases hz : gk = 0
      · have hkn : ¬ (k : Int) < n := by omega
        clear hw hb hl hg hk hz
        go_wp2
        go_end0
        exact ⟨⟨_, rfl⟩, by first | exact HBB.out | (have h := HBB.out; simpa using h)⟩
      · have hkn : (k : Int) < n := by omega
        have c0 := (hw.cellAt k (by omega)).trans (bv_get xs k (by omega))
        have f0 := hw.frozenAt k
        generalize xs.getD k false = u0 at c0
        have HK := Lib.hid (And.intro hk (And.intro hg hz))
        clear hw hb hl hk hg hz
        go_wp2
        go_roundg (gk - 1)
        case measure => have := HK.out; omega
        case rel =>
          refine ⟨by have := HK.out; omega, num_eq (by have := HK.out; omega), xs.set k (!u0), ?_, HBB.out.setCell (p := ⟨g, k, none⟩) ⟨0, none, rfl⟩ _⟩
          have h := (HW.out.stored k (.bool (!u0))).1
          rw [bv_set] at h
          exact h
set_option maxRecDepth 100000 in
set_option maxHeartbeats 2000000 in
theorem sameBools17_any (A B : Option Addr) (n c m d : Nat) (l r : List Bool) (w : World) (h1 : Sl w 1 A n c (bv l)) (h2 : Sl w 1 B m d (bv r)) :
    Calls Try.prog 16 #[.slice A n c, .slice B m d] w fun e w' => e = .returned (.bool (decide (l = r))) ∧ Ext w w' := by
  have hl := h1.blen
  have hr := h2.blen
  have s1 := h1.small
  have s2 := h2.small
  by_cases hnm : n = m
  · subst hnm
    have H1 := Lib.hid h1
    have H2 := Lib.hid h2
    have HL := Lib.hid (And.intro hl hr)
    have e0 : ((n : Int) == (n : Int)) = true := by simp
    obtain ⟨bb, hbb⟩ : ∃ b, b = decide (l = r) := ⟨_, rfl⟩
    rw [← hbb]
    have HBB := Lib.hid hbb
    clear h1 h2 hl hr hbb
    go_enter Try.func16, Try.ntmps16
    go_wp2
    go_loopg [5, 6] n (fun gh q i wx => gh ≤ n ∧ i = .int .i64 ((n - gh : Nat) : Int) ∧ (∃ b : Bool, q = .bool b ∧ Hid (b = decide (l.take (n - gh) = r.take (n - gh)))) ∧ Ext w wx)
    case atStart => exact ⟨Nat.le_refl _, by simp, ⟨true, rfl, by rw [Nat.sub_self]; exact Lib.hid (by simp)⟩, Ext.refl _⟩
    case round =>
      obtain ⟨hg, hi, ⟨b, rfl, hb⟩, hx⟩ := hrel
      obtain ⟨k, hk⟩ : ∃ k, k = n - gk := ⟨_, rfl⟩
      rw [← hk] at hi hb
      subst hi
      have XR := Lib.hid hx
      cases b
      · have hne : bb = false := by
          have h := hb.out
          rw [HBB.out]
          by_cases hlr : l = r
          · subst hlr; simp at h
          · exact decide_eq_false hlr
        subst hne
        clear hx hk hg hb
        go_wp2
        go_ret
        exact ⟨rfl, XR.out⟩
      · by_cases hz : gk = 0
        · have hkn : ¬ (k : Int) < n := by omega
          have hne : bb = true := by
            have h := hb.out
            rw [HBB.out]
            rw [List.take_of_length_le (by have := HL.out; omega), List.take_of_length_le (by have := HL.out; omega)] at h
            exact h.symm
          subst hne
          clear hx hk hg hb hz
          go_wp2
          go_ret
          exact ⟨rfl, XR.out⟩
        · have hkn : (k : Int) < n := by omega
          have hk1 : k < l.length := by have := HL.out; omega
          have hk2 : k < r.length := by have := HL.out; omega
          obtain ⟨b1, o1, rfl, hb1, hc1⟩ := H1.out.at_ (show 0 < n from by omega)
          obtain ⟨b2, o2, rfl, hb2, hc2⟩ := H2.out.at_ (show 0 < n from by omega)
          obtain ⟨x0, hxx⟩ : ∃ x, x = l[k] := ⟨_, rfl⟩
          obtain ⟨y0, hyy⟩ : ∃ y, y = r[k] := ⟨_, rfl⟩
          have hlk : l[k]? = some x0 := by rw [hxx]; exact List.getElem?_eq_getElem hk1
          have hrk : r[k]? = some y0 := by rw [hyy]; exact List.getElem?_eq_getElem hk2
          have x_0 : wr.cell? ⟨b1, o1 + k, none⟩ = some (.bool x0) := XR.out.has (hc1 k _ (by unfold bv; rw [List.getElem?_map, hlk]; rfl))
          have y_0 : wr.cell? ⟨b2, o2 + k, none⟩ = some (.bool y0) := XR.out.has (hc2 k _ (by unfold bv; rw [List.getElem?_map, hrk]; rfl))
          have t1 := iv_takeBool hlk
          have t2 := iv_takeBool hrk
          have hstep : Hid ((x0 == y0) = decide (l.take (k + 1) = r.take (k + 1))) := Lib.hid (by
            rw [t1, t2]
            have h := hb.out
            have h3 : l.take k = r.take k := by simpa using h.symm
            rw [h3]
            by_cases hxy : x0 = y0 <;> simp [hxy])
          have HK := Lib.hid (And.intro hk (And.intro hg hz))
          clear hx hk hg hb hz hc1 hc2 t1 t2 hxx hyy hk1 hk2 hlk hrk
          go_wp2_with fail
          refine wp_region_held_drew (S := fun w' => w'.cell? ⟨b1, o1 + k, none⟩ = some (.bool x0) ∧ w'.cell? ⟨b2, o2 + k, none⟩ = some (.bool y0)) (by kernel_rfl) (by first | exact ⟨x_0, y_0⟩ | (simp [go_sem, World.cell?_alloc_past, x_0, y_0]; done)) (fun hHeld => ?_)
          (refine' take_in 0 rfl (by kernel_rfl) (by kernel_rfl) (by kernel_rfl) (fun _ _ _ h => h) (by rfl) (by assumption) ?_ ?_; rotate_left; focus (intro w hSw; (try dsimp only at hSw); go_simp; try with_reducible rfl)); try simp only [Act.put, List.setIfInBounds_toArray, List.set_cons_zero, List.set_cons_succ]
          (refine' take_in 1 rfl (by kernel_rfl) (by kernel_rfl) (by kernel_rfl) (fun _ _ _ h => h) (by rfl) (by assumption) ?_ ?_; rotate_left; focus (intro w hSw; (try dsimp only at hSw); go_simp; try with_reducible rfl)); try simp only [Act.put, List.setIfInBounds_toArray, List.set_cons_zero, List.set_cons_succ]
          (refine' take_in 2 rfl (by kernel_rfl) (by kernel_rfl) (by kernel_rfl) (fun _ _ _ h => h) (by rfl) (by assumption) ?_ ?_; rotate_left; focus (intro w hSw; (try dsimp only at hSw); go_simp; try with_reducible rfl)); try simp only [Act.put, List.setIfInBounds_toArray, List.set_cons_zero, List.set_cons_succ]
          (refine' take_in 3 rfl (by kernel_rfl) (by kernel_rfl) (by kernel_rfl) (fun _ _ _ h => h) (by rfl) (by assumption) ?_ ?_; rotate_left; focus (intro w hSw; (try dsimp only at hSw); go_simp; try with_reducible rfl)); try simp only [Act.put, List.setIfInBounds_toArray, List.set_cons_zero, List.set_cons_succ]
          (refine' take_in 4 rfl (by kernel_rfl) (by kernel_rfl) (by kernel_rfl) (fun _ _ _ h => h) (by rfl) (by assumption) ?_ ?_; rotate_left; focus (intro w hSw; (try dsimp only at hSw); go_simp; try with_reducible rfl)); try simp only [Act.put, List.setIfInBounds_toArray, List.set_cons_zero, List.set_cons_succ]
          (refine' take_in 5 rfl (by kernel_rfl) (by kernel_rfl) (by kernel_rfl) (fun _ _ _ h => h) (by rfl) (by assumption) ?_ ?_; rotate_left; focus (intro w hSw; (try dsimp only at hSw); go_simp; try with_reducible rfl)); try simp only [Act.put, List.setIfInBounds_toArray, List.set_cons_zero, List.set_cons_succ]
          (refine' take_in 6 rfl (by kernel_rfl) (by kernel_rfl) (by kernel_rfl) (fun _ _ _ h => h) (by rfl) (by assumption) ?_ ?_; rotate_left; focus (intro w hSw; (try dsimp only at hSw); go_simp; try with_reducible rfl)); try simp only [Act.put, List.setIfInBounds_toArray, List.set_cons_zero, List.set_cons_succ]
          (refine' take_in 7 rfl (by kernel_rfl) (by kernel_rfl) (by kernel_rfl) (fun _ _ _ h => h) (by rfl) (by assumption) ?_ ?_; rotate_left; focus (intro w hSw; (try dsimp only at hSw); go_simp; try with_reducible rfl)); try simp only [Act.put, List.setIfInBounds_toArray, List.set_cons_zero, List.set_cons_succ]
          (refine' take_in 8 rfl (by kernel_rfl) (by kernel_rfl) (by kernel_rfl) (fun _ _ _ h => h) (by rfl) (by assumption) ?_ ?_; rotate_left; focus (intro w hSw; (try dsimp only at hSw); go_simp; try with_reducible rfl)); try simp only [Act.put, List.setIfInBounds_toArray, List.set_cons_zero, List.set_cons_succ]
          (refine' take_in 9 rfl (by kernel_rfl) (by kernel_rfl) (by kernel_rfl) (fun _ _ _ h => h) (by rfl) (by assumption) ?_ ?_; rotate_left; focus (intro w hSw; (try dsimp only at hSw); go_simp; try with_reducible rfl)); try simp only [Act.put, List.setIfInBounds_toArray, List.set_cons_zero, List.set_cons_succ]
          refine wpAnyH_done (by kernel_rfl) ?_ _
          go_wp2_with fail
          go_roundg (gk - 1)
          case measure => have := HK.out; omega
          case rel => exact ⟨by have := HK.out; omega, num_eq (by have := HK.out; omega), ⟨_, rfl, Lib.hid (by rw [show n - (gk - 1) = k + 1 from by have := HK.out; omega]; exact hstep.out)⟩, (by repeat (first | with_reducible exact XR.out | with_reducible refine Ext.drew ?_ | with_reducible refine Ext.drewN ?_ _ | with_reducible refine Ext.alloc ?_ _ | with_reducible refine Ext.setCell ?_ (by first | omega | (simp; done) | (simp; omega)) _))⟩
  · have hne : ¬ l = r := by rintro rfl; omega
    rw [decide_eq_false hne]
    have e0 : ((n : Int) == (m : Int)) = false := by simp; omega
    clear h1 h2 hl hr hne
    go_enter Try.func16, Try.ntmps16
    go_wp2
    go_loopg [5, 6] 0 (fun gh q i wx => q = .bool false ∧ i = .int .i64 0 ∧ wx = w)
    case atStart => exact ⟨rfl, rfl, rfl⟩
    case round =>
      obtain ⟨rfl, rfl, rfl⟩ := hrel
      go_wp2
      go_ret
      exact ⟨rfl, Ext.refl _⟩
theorem sameBools17_eq (A B : Option Addr) (n c m d : Nat) (l : List Bool) (w : World) (h1 : Sl w 1 A n c (bv l)) (h2 : Sl w 1 B m d (bv l)) :
    Calls Try.prog 16 #[.slice A n c, .slice B m d] w fun e w' => e = .returned (.bool true) ∧ Ext w w' := by
  have h := sameBools17_any A B n c m d l l w h1 h2
  simpa using h
theorem OwnBool.but {S : Nat → Prop} {w w' : World} {base n c m : Nat} {A : Option Addr} {l : List Bool} (h : OwnBool w base (.slice A m c) n l) (hx : But S w w') (hS : ∀ k o s, A = some ⟨k, o, s⟩ → ¬ S k) : OwnBool w' base (.slice A m c) n l := by
  refine own_but1Word h hx (fun j hj => ?_)
  cases A with
  | none => cases hj
  | some a => obtain ⟨b, o, s⟩ := a
              injection hj with hj
              have hj2 : b = j := hj
              subst hj2
              exact hS b o s rfl
end Go.Proofs.Ytplmgcbjfmdebaa
