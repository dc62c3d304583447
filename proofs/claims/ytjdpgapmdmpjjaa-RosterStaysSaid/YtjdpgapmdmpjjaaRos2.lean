/- roster: the operators seen, why a validator or a roster may not be. Conditions stand in each lemma. -/
import Derived.Test.YtjdpgapmdmpjjaaRos1
import Derived.Maps.OwnSet
set_option linter.unusedVariables false
set_option linter.unusedSimpArgs false
namespace Go.Proofs.Ytjdpgapmdmpjjaa
open Go.RowKit Go.ChangeShapes Go.WideShapes Go.Deep Go.Joins Go.Maps

theorem rosLaw3 : Keyed Try.prog 3 := int_keyed Try.underlying3
theorem rosZero3 (w : World) : (zeroValue 3).run Try.prog w = .ok (.int .i64 0) w := by kernel_rfl
/-- a map that holds these keys -/
def Seen (w : World) (bm : Nat) (os : List Int) : Prop := ∃ D : DataW Unit, w.ownsMap Try.prog 3 (plainElem Try.prog 3) bm os.length D ∧ Maps.IsMap D ∧ ∀ x, Maps.has D (.int .i64 x) = decide (x ∈ os)
theorem Seen.lt {w : World} {bm : Nat} {os : List Int} (h : Seen w bm os) : bm < w.heap.size := by
  obtain ⟨D, h, _⟩ := h
  exact h.lt
theorem Seen.ext {w w' : World} {bm : Nat} {os : List Int} (h : Seen w bm os) (hx : Ext w w') : Seen w' bm os := by
  obtain ⟨D, h, h1, h2⟩ := h
  have hl := h.lt
  obtain ⟨es, clock, hb, Ft, hs, hD⟩ := h
  exact ⟨D, ⟨es, clock, (Below.block hx bm hl).trans hb, Ft, hs, hD⟩, h1, h2⟩
theorem Seen.made (w : World) : Seen (w.alloc (.map #[] 0)) w.heap.size [] := ⟨.map [], World.ownsMap_made _ _ _ _, isMap_empty, fun x => by simp [has_eq]⟩
theorem Seen.put {w : World} {bm : Nat} {os : List Int} {D : DataW Unit} {x : Int} {d : DataW Unit} (h : w.ownsMap Try.prog 3 (plainElem Try.prog 3) bm (os.length + 1) (D.put (.int .i64 x) d)) (h1 : Maps.IsMap D) (h2 : ∀ x, Maps.has D (.int .i64 x) = decide (x ∈ os)) : Seen w bm (os ++ [x]) := by
  refine ⟨_, by simpa using h, h1.put _ _, fun y => ?_⟩
  by_cases e : y = x
  · subst e
    rw [has_put_same h1 (by trivial)]
    simp
  · rw [has_put_other (by simpa using e), h2]
    simp [e]
/-- why a validator may not be -/
def oneV (op ms st un : Int) (at_ pr db : Bool) : Int :=
  if op < 0 ∨ op ≥ 64 ∨ st < 1 ∨ st > 4 ∨ un < 0 ∨ un > 4296015872 then 3 else if ms = 0 then 2 else if db = true then 8 else if decide (st = 4) ≠ at_ ∨ (un = 0 ∧ (st = 3 ∨ at_ = true ∨ pr = true)) then 11 else 0
set_option maxRecDepth 100000 in
set_option maxHeartbeats 4000000 in
theorem rosOne_any (x0 x1 x2 x3 : Int) (x4 x5 : Bool) (bm : Nat) (os : List Int) (w : World) (hs : Seen w bm os) (hw : (Lit.int .i64 x0).wf = true) :
    Calls Try.prog 98 #[.agg #[.int .i64 x0, .int .u64 x1, .int .i64 x2, .int .i64 x3, .bool x4, .bool x5], .map (some bm)] w fun e w' => e = .returned (.int .i64 (oneV x0 x1 x2 x3 x4 x5 (decide (x0 ∈ os)))) ∧ Ext w w' := by
  obtain ⟨D, hown, hm, hh⟩ := hs
  obtain ⟨db, hdb⟩ : ∃ b, b = decide (x0 ∈ os) := ⟨_, rfl⟩
  have hhas := hh x0
  rw [← hdb] at hhas ⊢
  have hkey : keyOf Try.prog 3 (.int .i64 x0) = some (.int .i64 x0) := keyOf_int_mk Try.underlying3 hw
  clear hm hh hdb hw
  by_cases a0 : x0 < 0
  · have hv : oneV x0 x1 x2 x3 x4 x5 db = 3 := by
      unfold oneV
      rw [if_pos (by omega)]
    rw [hv]
    clear hv
    go_enter Try.func98, Try.ntmps98
    go_wp2_with (at_lookup; refine wpList_lookup_own_ok_int _ rfl _ _ 111 rfl 3 3 .i64 rosLaw3 Try.underlying111 Try.underlying3 (rosZero3 _) bm os.length D rfl (hown.alloc _) _ _ rfl hkey ?_; intro cL hat hwc; rw [hhas])
    go_ret
    exact ⟨rfl, Ext.alloc (Ext.refl _) _⟩
  by_cases a1 : x0 ≥ 64
  · have hv : oneV x0 x1 x2 x3 x4 x5 db = 3 := by
      unfold oneV
      rw [if_pos (by omega)]
    rw [hv]
    clear hv
    go_enter Try.func98, Try.ntmps98
    go_wp2_with (at_lookup; refine wpList_lookup_own_ok_int _ rfl _ _ 111 rfl 3 3 .i64 rosLaw3 Try.underlying111 Try.underlying3 (rosZero3 _) bm os.length D rfl (hown.alloc _) _ _ rfl hkey ?_; intro cL hat hwc; rw [hhas])
    go_ret
    exact ⟨rfl, Ext.alloc (Ext.refl _) _⟩
  by_cases a2 : x2 < 1
  · have hv : oneV x0 x1 x2 x3 x4 x5 db = 3 := by
      unfold oneV
      rw [if_pos (by omega)]
    rw [hv]
    clear hv
    go_enter Try.func98, Try.ntmps98
    go_wp2_with (at_lookup; refine wpList_lookup_own_ok_int _ rfl _ _ 111 rfl 3 3 .i64 rosLaw3 Try.underlying111 Try.underlying3 (rosZero3 _) bm os.length D rfl (hown.alloc _) _ _ rfl hkey ?_; intro cL hat hwc; rw [hhas])
    go_ret
    exact ⟨rfl, Ext.alloc (Ext.refl _) _⟩
  by_cases a3 : x2 > 4
  · have hv : oneV x0 x1 x2 x3 x4 x5 db = 3 := by
      unfold oneV
      rw [if_pos (by omega)]
    rw [hv]
    clear hv
    go_enter Try.func98, Try.ntmps98
    go_wp2_with (at_lookup; refine wpList_lookup_own_ok_int _ rfl _ _ 111 rfl 3 3 .i64 rosLaw3 Try.underlying111 Try.underlying3 (rosZero3 _) bm os.length D rfl (hown.alloc _) _ _ rfl hkey ?_; intro cL hat hwc; rw [hhas])
    go_ret
    exact ⟨rfl, Ext.alloc (Ext.refl _) _⟩
  by_cases a4 : x3 < 0
  · have hv : oneV x0 x1 x2 x3 x4 x5 db = 3 := by
      unfold oneV
      rw [if_pos (by omega)]
    rw [hv]
    clear hv
    go_enter Try.func98, Try.ntmps98
    go_wp2_with (at_lookup; refine wpList_lookup_own_ok_int _ rfl _ _ 111 rfl 3 3 .i64 rosLaw3 Try.underlying111 Try.underlying3 (rosZero3 _) bm os.length D rfl (hown.alloc _) _ _ rfl hkey ?_; intro cL hat hwc; rw [hhas])
    go_ret
    exact ⟨rfl, Ext.alloc (Ext.refl _) _⟩
  by_cases a5 : x3 > 4296015872
  · have hv : oneV x0 x1 x2 x3 x4 x5 db = 3 := by
      unfold oneV
      rw [if_pos (by omega)]
    rw [hv]
    clear hv
    go_enter Try.func98, Try.ntmps98
    go_wp2_with (at_lookup; refine wpList_lookup_own_ok_int _ rfl _ _ 111 rfl 3 3 .i64 rosLaw3 Try.underlying111 Try.underlying3 (rosZero3 _) bm os.length D rfl (hown.alloc _) _ _ rfl hkey ?_; intro cL hat hwc; rw [hhas])
    go_ret
    exact ⟨rfl, Ext.alloc (Ext.refl _) _⟩
  by_cases b : x1 = 0
  · subst b
    have hv : oneV x0 0 x2 x3 x4 x5 db = 2 := by
      unfold oneV
      rw [if_neg (by omega), if_pos (by omega)]
    rw [hv]
    clear hv
    go_enter Try.func98, Try.ntmps98
    go_wp2_with (at_lookup; refine wpList_lookup_own_ok_int _ rfl _ _ 111 rfl 3 3 .i64 rosLaw3 Try.underlying111 Try.underlying3 (rosZero3 _) bm os.length D rfl (hown.alloc _) _ _ rfl hkey ?_; intro cL hat hwc; rw [hhas])
    go_ret
    exact ⟨rfl, Ext.alloc (Ext.refl _) _⟩
  have b1 : (x1 == 0) = false := by simp [b]
  cases db
  case true =>
    have hv : oneV x0 x1 x2 x3 x4 x5 true = 8 := by
      unfold oneV
      rw [if_neg (by omega), if_neg (by omega), if_pos (by first | decide | omega | simp_all | (simp; omega))]
    rw [hv]
    clear hv
    go_enter Try.func98, Try.ntmps98
    go_wp2_with (at_lookup; refine wpList_lookup_own_ok_int _ rfl _ _ 111 rfl 3 3 .i64 rosLaw3 Try.underlying111 Try.underlying3 (rosZero3 _) bm os.length D rfl (hown.alloc _) _ _ rfl hkey ?_; intro cL hat hwc; rw [hhas])
    go_ret
    exact ⟨rfl, Ext.alloc (Ext.refl _) _⟩
  case false =>
    by_cases c : x2 = 4
    · subst c
      cases x4
      · have hv : oneV x0 x1 4 x3 false x5 false = 11 := by
          unfold oneV
          rw [if_neg (by omega), if_neg (by omega), if_neg (by first | decide | omega | simp_all | (simp; omega)), if_pos (by first | decide | omega | simp_all | (simp; omega))]
        rw [hv]
        clear hv
        go_enter Try.func98, Try.ntmps98
        go_wp2_with (at_lookup; refine wpList_lookup_own_ok_int _ rfl _ _ 111 rfl 3 3 .i64 rosLaw3 Try.underlying111 Try.underlying3 (rosZero3 _) bm os.length D rfl (hown.alloc _) _ _ rfl hkey ?_; intro cL hat hwc; rw [hhas])
        go_ret
        exact ⟨rfl, Ext.alloc (Ext.refl _) _⟩
      · by_cases d : x3 = 0
        · subst d
          have hv : oneV x0 x1 4 0 true x5 false = 11 := by
            unfold oneV
            rw [if_neg (by omega), if_neg (by omega), if_neg (by first | decide | omega | simp_all | (simp; omega)), if_pos (by first | decide | omega | simp_all | (simp; omega))]
          rw [hv]
          clear hv
          go_enter Try.func98, Try.ntmps98
          go_wp2_with (at_lookup; refine wpList_lookup_own_ok_int _ rfl _ _ 111 rfl 3 3 .i64 rosLaw3 Try.underlying111 Try.underlying3 (rosZero3 _) bm os.length D rfl (hown.alloc _) _ _ rfl hkey ?_; intro cL hat hwc; rw [hhas])
          go_ret
          exact ⟨rfl, Ext.alloc (Ext.refl _) _⟩
        · have d1 : (x3 == 0) = false := by simp [d]
          have hv : oneV x0 x1 4 x3 true x5 false = 0 := by
            unfold oneV
            rw [if_neg (by omega), if_neg (by omega), if_neg (by first | decide | omega | simp_all | (simp; omega)), if_neg (by first | decide | omega | simp_all | (simp; omega))]
          rw [hv]
          clear hv
          go_enter Try.func98, Try.ntmps98
          go_wp2_with (at_lookup; refine wpList_lookup_own_ok_int _ rfl _ _ 111 rfl 3 3 .i64 rosLaw3 Try.underlying111 Try.underlying3 (rosZero3 _) bm os.length D rfl (hown.alloc _) _ _ rfl hkey ?_; intro cL hat hwc; rw [hhas])
          go_ret
          exact ⟨rfl, Ext.alloc (Ext.refl _) _⟩
    · have c1 : (x2 == 4) = false := by simp [c]
      cases x4
      · by_cases d : x3 = 0
        · subst d
          by_cases e : x2 = 3
          · subst e
            have hv : oneV x0 x1 3 0 false x5 false = 11 := by
              unfold oneV
              rw [if_neg (by omega), if_neg (by omega), if_neg (by first | decide | omega | simp_all | (simp; omega)), if_pos (by first | decide | omega | simp_all | (simp; omega))]
            rw [hv]
            clear hv
            go_enter Try.func98, Try.ntmps98
            go_wp2_with (at_lookup; refine wpList_lookup_own_ok_int _ rfl _ _ 111 rfl 3 3 .i64 rosLaw3 Try.underlying111 Try.underlying3 (rosZero3 _) bm os.length D rfl (hown.alloc _) _ _ rfl hkey ?_; intro cL hat hwc; rw [hhas])
            go_ret
            exact ⟨rfl, Ext.alloc (Ext.refl _) _⟩
          · have e1 : (x2 == 3) = false := by simp [e]
            cases x5
            · have hv : oneV x0 x1 x2 0 false false false = 0 := by
                unfold oneV
                rw [if_neg (by omega), if_neg (by omega), if_neg (by first | decide | omega | simp_all | (simp; omega)), if_neg (by first | decide | omega | simp_all | (simp; omega))]
              rw [hv]
              clear hv
              go_enter Try.func98, Try.ntmps98
              go_wp2_with (at_lookup; refine wpList_lookup_own_ok_int _ rfl _ _ 111 rfl 3 3 .i64 rosLaw3 Try.underlying111 Try.underlying3 (rosZero3 _) bm os.length D rfl (hown.alloc _) _ _ rfl hkey ?_; intro cL hat hwc; rw [hhas])
              go_ret
              exact ⟨rfl, Ext.alloc (Ext.refl _) _⟩
            · have hv : oneV x0 x1 x2 0 false true false = 11 := by
                unfold oneV
                rw [if_neg (by omega), if_neg (by omega), if_neg (by first | decide | omega | simp_all | (simp; omega)), if_pos (by first | decide | omega | simp_all | (simp; omega))]
              rw [hv]
              clear hv
              go_enter Try.func98, Try.ntmps98
              go_wp2_with (at_lookup; refine wpList_lookup_own_ok_int _ rfl _ _ 111 rfl 3 3 .i64 rosLaw3 Try.underlying111 Try.underlying3 (rosZero3 _) bm os.length D rfl (hown.alloc _) _ _ rfl hkey ?_; intro cL hat hwc; rw [hhas])
              go_ret
              exact ⟨rfl, Ext.alloc (Ext.refl _) _⟩
        · have d1 : (x3 == 0) = false := by simp [d]
          have hv : oneV x0 x1 x2 x3 false x5 false = 0 := by
            unfold oneV
            rw [if_neg (by omega), if_neg (by omega), if_neg (by first | decide | omega | simp_all | (simp; omega)), if_neg (by first | decide | omega | simp_all | (simp; omega))]
          rw [hv]
          clear hv
          go_enter Try.func98, Try.ntmps98
          go_wp2_with (at_lookup; refine wpList_lookup_own_ok_int _ rfl _ _ 111 rfl 3 3 .i64 rosLaw3 Try.underlying111 Try.underlying3 (rosZero3 _) bm os.length D rfl (hown.alloc _) _ _ rfl hkey ?_; intro cL hat hwc; rw [hhas])
          go_ret
          exact ⟨rfl, Ext.alloc (Ext.refl _) _⟩
      · have hv : oneV x0 x1 x2 x3 true x5 false = 11 := by
          unfold oneV
          rw [if_neg (by omega), if_neg (by omega), if_neg (by first | decide | omega | simp_all | (simp; omega)), if_pos (by first | decide | omega | simp_all | (simp; omega))]
        rw [hv]
        clear hv
        go_enter Try.func98, Try.ntmps98
        go_wp2_with (at_lookup; refine wpList_lookup_own_ok_int _ rfl _ _ 111 rfl 3 3 .i64 rosLaw3 Try.underlying111 Try.underlying3 (rosZero3 _) bm os.length D rfl (hown.alloc _) _ _ rfl hkey ?_; intro cL hat hwc; rw [hhas])
        go_ret
        exact ⟨rfl, Ext.alloc (Ext.refl _) _⟩
end Go.Proofs.Ytjdpgapmdmpjjaa
