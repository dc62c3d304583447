/- distraintref16: who is found, what is refused, who is free or active, why a validator may not be. Conditions stand in each lemma. -/
import Derived.Test.YtjdpgapmdmpjjaaRos5
set_option linter.unusedVariables false
set_option linter.unusedSimpArgs false
namespace Go.Proofs.Ytjdpgapmdmpjjaa
open Go.RowKit Go.ChangeShapes Go.WideShapes Go.Deep Go.Joins

set_option maxRecDepth 100000 in
set_option maxHeartbeats 1000000 in
theorem rFind16_any (A : Option Addr) (n c : Nat) (l : List (Int × Int × Int × Int × Bool × Bool)) (o : Int) (w : World) (h : Sl w 6 A n c (l.flatMap valC)) :
    Calls Try.prog 40 #[.slice A n c, .int .i64 o] w fun e w' => e = .returned (.tuple #[.int .i64 (fndV l o).1, .bool (fndV l o).2]) ∧ Ext w w' := by
  have hl := h.rlen valC_len (by decide)
  have s1 := h.small
  have HS := Lib.hid h
  have HL := Lib.hid hl
  obtain ⟨⟨f1, f2⟩, hF⟩ : ∃ F, F = fndV l o := ⟨_, rfl⟩
  rw [← hF]
  have HF := Lib.hid hF
  clear h hl hF
  go_enter Try.func40, Try.ntmps40
  go_wp2
  go_loopg [6] n (fun gh i wx => gh ≤ n ∧ i = .int .i64 ((n - gh : Nat) : Int) ∧ Hid (∀ j y, j < n - gh → l[j]? = some y → y.1 ≠ o) ∧ Ext w wx)
  case atStart => exact ⟨Nat.le_refl _, by simp, Lib.hid (by intro j y hj; omega), Ext.refl _⟩
  case round =>
    obtain ⟨hg, hi, hp, hx⟩ := hrel
    obtain ⟨k, hk⟩ : ∃ k, k = n - gk := ⟨_, rfl⟩
    rw [← hk] at hi hp
    subst hi
    have XR := Lib.hid hx
    by_cases hz : gk = 0
    · have hkn : ¬ (k : Int) < n := by omega
      have hff : (f1, f2) = (0, false) := by
        rw [HF.out]
        exact fndV_none (fun j y hj hy => hp.out j y (by have := HL.out; omega) hy)
      obtain ⟨rfl, rfl⟩ := Prod.mk.inj hff
      clear hx hk hg hz hff
      go_wp2
      refine bodyPost_ret (v := .tuple #[.int .i64 0, .bool false]) (by simp [results, Try.results40]; try rfl) rfl ⟨rfl, XR.out⟩
    have hkn : (k : Int) < n := by omega
    have hk1 : k < l.length := by have := HL.out; omega
    obtain ⟨b1, o1, rfl, hb1, hc1⟩ := HS.out.rec_ valC_len (show 0 < n from by omega)
    have x_0 := XR.out.has (hc1 k _ (List.getElem?_eq_getElem hk1) 0 _ rfl)
    have x_1 := XR.out.has (hc1 k _ (List.getElem?_eq_getElem hk1) 1 _ rfl)
    have x_2 := XR.out.has (hc1 k _ (List.getElem?_eq_getElem hk1) 2 _ rfl)
    have x_3 := XR.out.has (hc1 k _ (List.getElem?_eq_getElem hk1) 3 _ rfl)
    have x_4 := XR.out.has (hc1 k _ (List.getElem?_eq_getElem hk1) 4 _ rfl)
    have x_5 := XR.out.has (hc1 k _ (List.getElem?_eq_getElem hk1) 5 _ rfl)
    obtain ⟨x, hxx⟩ : ∃ x, x = l[k] := ⟨_, rfl⟩
    have hlk : l[k]? = some x := by rw [hxx]; exact List.getElem?_eq_getElem hk1
    rw [← hxx] at x_0 x_1 x_2 x_3 x_4 x_5
    obtain ⟨x0, x1, x2, x3, x4, x5⟩ := x
    simp only at x_0 x_1 x_2 x_3 x_4 x_5
    rw [Nat.add_zero] at x_0
    rw [← Nat.add_assoc] at x_1 x_2 x_3 x_4 x_5
    have HQ := Lib.hid hlk
    have HK := Lib.hid (And.intro hk (And.intro hg hz))
    by_cases hE : x0 = o
    · subst hE
      have hff : (f1, f2) = (((k : Nat) : Int), true) := by
        rw [HF.out]
        exact fndV_at hlk rfl hp.out
      obtain ⟨rfl, rfl⟩ := Prod.mk.inj hff
      have e9 : (x0 == x0) = true := by simp
      clear hx hk hg hz hc1 hxx hk1 hlk hff
      go_wp2_with fail
      refine bodyPost_ret (v := .tuple #[.int .i64 (k : Int), .bool true]) (by simp [results, Try.results40]; try rfl) rfl ⟨rfl, ?_⟩
      exact (by repeat (first | with_reducible exact XR.out | with_reducible refine Ext.drew ?_ | with_reducible refine Ext.drewN ?_ _ | with_reducible refine Ext.alloc ?_ _ | with_reducible refine Ext.setCell ?_ (by first | omega | (simp; done) | (simp; omega)) _))
    · have e9 : (x0 == o) = false := by simp [hE]
      clear hx hk hg hz hc1 hxx hk1 hlk
      go_wp2_with fail
      go_roundg (gk - 1)
      case measure => have := HK.out; omega
      case rel =>
        refine ⟨by have := HK.out; omega, num_eq (by have := HK.out; omega), Lib.hid ?_, (by repeat (first | with_reducible exact XR.out | with_reducible refine Ext.drew ?_ | with_reducible refine Ext.drewN ?_ _ | with_reducible refine Ext.alloc ?_ _ | with_reducible refine Ext.setCell ?_ (by first | omega | (simp; done) | (simp; omega)) _))⟩
        intro j y hj hy
        rcases Nat.lt_or_ge j k with h | h
        · exact hp.out j y h hy
        · have e : j = k := by have := HK.out; omega
          subst e
          rw [HQ.out] at hy
          injection hy with hy
          subst hy
          exact hE
theorem rFind16_ev (A : Option Addr) (n c : Nat) (l : List (Int × Int × Int × Int × Bool × Bool)) (o : Int) (i : Int) (b : Bool) (w : World) (h : Sl w 6 A n c (l.flatMap valC)) (hf : (i, b) = fndV l o) :
    Calls Try.prog 40 #[.slice A n c, .int .i64 o] w fun e w' => e = .returned (.tuple #[.int .i64 i, .bool b]) ∧ Ext w w' := by
  have h := rFind16_any A n c l o w h
  rw [← hf] at h
  exact h
set_option maxRecDepth 100000 in
set_option maxHeartbeats 1000000 in
theorem rRefuse16_any (A : Option Addr) (n c : Nat) (l : List (Int × Int × Int × Int × Bool × Bool)) (v : Int) (w : World) (h : Sl w 6 A n c (l.flatMap valC)) :
    Calls Try.prog 47 #[.slice A n c, .int .i64 v] w fun e w' => e = .returned (.int .i64 (rfsV l v)) ∧ Ext w w' := by
  have hl := h.rlen valC_len (by decide)
  have s1 := h.small
  have HS := Lib.hid h
  have HL := Lib.hid hl
  by_cases h0 : v < 0
  · have hv : rfsV l v = 10 := by unfold rfsV; rw [if_pos (by omega)]
    rw [hv]
    clear hv h hl
    go_enter Try.func47, Try.ntmps47
    go_wp2
    go_ret
    exact ⟨rfl, Ext.refl _⟩
  by_cases h1 : v ≥ n
  · have hv : rfsV l v = 10 := by unfold rfsV; rw [if_pos (by omega)]
    rw [hv]
    clear hv h hl
    go_enter Try.func47, Try.ntmps47
    go_wp2
    go_ret
    exact ⟨rfl, Ext.refl _⟩
  obtain ⟨k, rfl⟩ : ∃ k : Nat, v = (k : Int) := ⟨v.toNat, by omega⟩
  have hg : True := trivial
  have hz : True := trivial
  have hk : True := trivial
  have XR : Hid (Ext w w) := Lib.hid (Ext.refl w)
  have hkn : (k : Int) < n := by omega
  have hkn2 : ¬ (k : Int) ≥ n := h1
  have hk1 : k < l.length := by have := HL.out; omega
  obtain ⟨b1, o1, rfl, hb1, hc1⟩ := HS.out.rec_ valC_len (show 0 < n from by omega)
  have x_0 := (hc1 k _ (List.getElem?_eq_getElem hk1) 0 _ rfl)
  have x_1 := (hc1 k _ (List.getElem?_eq_getElem hk1) 1 _ rfl)
  have x_2 := (hc1 k _ (List.getElem?_eq_getElem hk1) 2 _ rfl)
  have x_3 := (hc1 k _ (List.getElem?_eq_getElem hk1) 3 _ rfl)
  have x_4 := (hc1 k _ (List.getElem?_eq_getElem hk1) 4 _ rfl)
  have x_5 := (hc1 k _ (List.getElem?_eq_getElem hk1) 5 _ rfl)
  obtain ⟨x, hxx⟩ : ∃ x, x = l[k] := ⟨_, rfl⟩
  have hlk : l[k]? = some x := by rw [hxx]; exact List.getElem?_eq_getElem hk1
  rw [← hxx] at x_0 x_1 x_2 x_3 x_4 x_5
  obtain ⟨x0, x1, x2, x3, x4, x5⟩ := x
  simp only at x_0 x_1 x_2 x_3 x_4 x_5
  rw [Nat.add_zero] at x_0
  rw [← Nat.add_assoc] at x_1 x_2 x_3 x_4 x_5
  have HQ := Lib.hid hlk
  have HK := Lib.hid (And.intro hk (And.intro hg hz))
  have hv : rfsV l (k : Int) = if x2 = 4 then 20 else 0 := by
    unfold rfsV
    rw [if_neg (by omega), show ((k : Int)).toNat = k from by simp, hlk]
    simp
  rw [hv]
  clear hv h hl hk hg hz hc1 hxx hk1 hlk XR HK h1
  by_cases hE : x2 = 4
  · subst hE
    go_enter Try.func47, Try.ntmps47
    go_wp2_with fail
    go_ret
    exact ⟨rfl, (by repeat (first | with_reducible exact Ext.refl w | with_reducible refine Ext.drew ?_ | with_reducible refine Ext.drewN ?_ _ | with_reducible refine Ext.alloc ?_ _ | with_reducible refine Ext.setCell ?_ (by first | omega | (simp; done) | (simp; omega)) _))⟩
  · have e4 : (x2 == 4) = false := by simp [hE]
    rw [if_neg hE]
    go_enter Try.func47, Try.ntmps47
    go_wp2_with fail
    go_ret
    exact ⟨rfl, (by repeat (first | with_reducible exact Ext.refl w | with_reducible refine Ext.drew ?_ | with_reducible refine Ext.drewN ?_ _ | with_reducible refine Ext.alloc ?_ _ | with_reducible refine Ext.setCell ?_ (by first | omega | (simp; done) | (simp; omega)) _))⟩
set_option maxRecDepth 100000 in
set_option maxHeartbeats 1000000 in
theorem rActive16_any (A : Option Addr) (n c : Nat) (l : List (Int × Int × Int × Int × Bool × Bool)) (w : World) (h : Sl w 6 A n c (l.flatMap valC)) (hn : n < 1099511627776) :
    Calls Try.prog 45 #[.slice A n c] w (RetB (actV l) w) := by
  have hl := h.rlen valC_len (by decide)
  have s1 := h.small
  have HS := Lib.hid h
  have HL := Lib.hid hl
  obtain ⟨i0, hi0, hz0, hz1, hz2⟩ := info_parts bool_info
  clear h hl
  go_enter Try.func45, Try.ntmps45
  go_wp2
  go_loopg [3, 4] n (fun gh q i wx => gh ≤ n ∧ i = .int .i64 ((n - gh : Nat) : Int) ∧ Hid (OwnB wx w.heap.size q (n - gh) (actV (l.take (n - gh)))) ∧ Ext w wx)
  case atStart => exact ⟨Nat.le_refl _, by simp, Lib.hid (by rw [Nat.sub_self]; exact OwnB.nil _ _), Ext.refl _⟩
  case round =>
    obtain ⟨hg, hi, ho, hx⟩ := hrel
    obtain ⟨k, hk⟩ : ∃ k, k = n - gk := ⟨_, rfl⟩
    rw [← hk] at hi ho
    subst hi
    have XR := Lib.hid hx
    by_cases hz : gk = 0
    · have hkn : ¬ (k : Int) < n := by omega
      have hk2 : k = l.length := by have := HL.out; omega
      have HR := Lib.hid (RetB.mk (l := actV l) (by have h := ho.out; rw [List.take_of_length_le (by omega)] at h; exact h) hx (by simp [actV, hk2]))
      clear hx hk hg hz ho hk2
      go_wp2
      go_ret
      exact HR.out
    · have HO := ho
      have hrm := Ext.size hx
      clear ho
      have hkn : (k : Int) < n := by omega
      have hk1 : k < l.length := by have := HL.out; omega
      obtain ⟨b1, o1, rfl, hb1, hc1⟩ := HS.out.rec_ valC_len (show 0 < n from by omega)
      have x_0 := XR.out.has (hc1 k _ (List.getElem?_eq_getElem hk1) 0 _ rfl)
      have x_1 := XR.out.has (hc1 k _ (List.getElem?_eq_getElem hk1) 1 _ rfl)
      have x_2 := XR.out.has (hc1 k _ (List.getElem?_eq_getElem hk1) 2 _ rfl)
      have x_3 := XR.out.has (hc1 k _ (List.getElem?_eq_getElem hk1) 3 _ rfl)
      have x_4 := XR.out.has (hc1 k _ (List.getElem?_eq_getElem hk1) 4 _ rfl)
      have x_5 := XR.out.has (hc1 k _ (List.getElem?_eq_getElem hk1) 5 _ rfl)
      obtain ⟨x, hxx⟩ : ∃ x, x = l[k] := ⟨_, rfl⟩
      have hlk : l[k]? = some x := by rw [hxx]; exact List.getElem?_eq_getElem hk1
      rw [← hxx] at x_0 x_1 x_2 x_3 x_4 x_5
      obtain ⟨x0, x1, x2, x3, x4, x5⟩ := x
      simp only at x_0 x_1 x_2 x_3 x_4 x_5
      rw [Nat.add_zero] at x_0
      rw [← Nat.add_assoc] at x_1 x_2 x_3 x_4 x_5
      have HQ := Lib.hid hlk
      have HK := Lib.hid (And.intro hk (And.intro hg hz))
      have hstep : Hid (actV (l.take (k + 1)) = actV (l.take k) ++ [x2 == 2]) := Lib.hid (by rw [valC_take hlk]; simp [actV])
      clear hx hk hg hz hc1 hxx hk1 hlk
      go_wp2_with (at_builtin; refine wpList_append_new _ rfl _ _ 50 rfl w.heap.size 4 i0 (.bool false) 1 1 Try.underlying50 hi0 hz0 hz1 hz2 rfl (by decide) _ k _ (by rfl) (HO.out.ext (by repeat (first | with_reducible exact Ext.refl _ | with_reducible refine Ext.drew ?_ | with_reducible refine Ext.drewN ?_ _ | with_reducible refine Ext.alloc ?_ _ | with_reducible refine Ext.setCell ?_ (by first | omega | (simp; done) | (simp; omega)) _))) #[.bool (x2 == 2)] 1 (by first | rfl | (simp [Act.eval]; done) | (simp [Act.eval, go_sem]; done)) rfl (by simp; try rfl) (by have := HK.out; omega) (by decide) (by first | omega | (simp; omega)) ?_; intro v2 w2 hown2 hb2)
      go_roundg (gk - 1)
      case measure => have := HK.out; omega
      case rel =>
        refine ⟨by have := HK.out; omega, num_eq (by have := HK.out; omega), Lib.hid ?_, Ext.below (by repeat (first | with_reducible exact XR.out | with_reducible refine Ext.drew ?_ | with_reducible refine Ext.drewN ?_ _ | with_reducible refine Ext.alloc ?_ _ | with_reducible refine Ext.setCell ?_ (by first | omega | (simp; done) | (simp; omega)) _)) hb2⟩
        have e : n - (gk - 1) = k + 1 := by have := HK.out; omega
        rw [e, hstep.out]
        exact OwnB.snoc hown2
set_option maxRecDepth 100000 in
set_option maxHeartbeats 1000000 in
theorem rFree16_any (A : Option Addr) (n c : Nat) (l : List (Int × Int × Int × Int × Bool × Bool)) (w : World) (h : Sl w 6 A n c (l.flatMap valC)) (hn : n < 1099511627776) :
    Calls Try.prog 43 #[.slice A n c] w (RetB (freeV l) w) := by
  have hl := h.rlen valC_len (by decide)
  have s1 := h.small
  have HS := Lib.hid h
  have HL := Lib.hid hl
  obtain ⟨i0, hi0, hz0, hz1, hz2⟩ := info_parts bool_info
  clear h hl
  go_enter Try.func43, Try.ntmps43
  go_wp2
  go_loopg [3, 4] n (fun gh q i wx => gh ≤ n ∧ i = .int .i64 ((n - gh : Nat) : Int) ∧ Hid (OwnB wx w.heap.size q (n - gh) (freeV (l.take (n - gh)))) ∧ Ext w wx)
  case atStart => exact ⟨Nat.le_refl _, by simp, Lib.hid (by rw [Nat.sub_self]; exact OwnB.nil _ _), Ext.refl _⟩
  case round =>
    obtain ⟨hg, hi, ho, hx⟩ := hrel
    obtain ⟨k, hk⟩ : ∃ k, k = n - gk := ⟨_, rfl⟩
    rw [← hk] at hi ho
    subst hi
    have XR := Lib.hid hx
    by_cases hz : gk = 0
    · have hkn : ¬ (k : Int) < n := by omega
      have hk2 : k = l.length := by have := HL.out; omega
      have HR := Lib.hid (RetB.mk (l := freeV l) (by have h := ho.out; rw [List.take_of_length_le (by omega)] at h; exact h) hx (by simp [freeV, hk2]))
      clear hx hk hg hz ho hk2
      go_wp2
      go_ret
      exact HR.out
    · have HO := ho
      have hrm := Ext.size hx
      clear ho
      have hkn : (k : Int) < n := by omega
      have hk1 : k < l.length := by have := HL.out; omega
      obtain ⟨b1, o1, rfl, hb1, hc1⟩ := HS.out.rec_ valC_len (show 0 < n from by omega)
      have x_0 := XR.out.has (hc1 k _ (List.getElem?_eq_getElem hk1) 0 _ rfl)
      have x_1 := XR.out.has (hc1 k _ (List.getElem?_eq_getElem hk1) 1 _ rfl)
      have x_2 := XR.out.has (hc1 k _ (List.getElem?_eq_getElem hk1) 2 _ rfl)
      have x_3 := XR.out.has (hc1 k _ (List.getElem?_eq_getElem hk1) 3 _ rfl)
      have x_4 := XR.out.has (hc1 k _ (List.getElem?_eq_getElem hk1) 4 _ rfl)
      have x_5 := XR.out.has (hc1 k _ (List.getElem?_eq_getElem hk1) 5 _ rfl)
      obtain ⟨x, hxx⟩ : ∃ x, x = l[k] := ⟨_, rfl⟩
      have hlk : l[k]? = some x := by rw [hxx]; exact List.getElem?_eq_getElem hk1
      rw [← hxx] at x_0 x_1 x_2 x_3 x_4 x_5
      obtain ⟨x0, x1, x2, x3, x4, x5⟩ := x
      simp only at x_0 x_1 x_2 x_3 x_4 x_5
      rw [Nat.add_zero] at x_0
      rw [← Nat.add_assoc] at x_1 x_2 x_3 x_4 x_5
      have HQ := Lib.hid hlk
      have HK := Lib.hid (And.intro hk (And.intro hg hz))
      have hstep : Hid (freeV (l.take (k + 1)) = freeV (l.take k) ++ [decide (x2 = 1 ∨ x2 = 2)]) := Lib.hid (by rw [valC_take hlk]; simp [freeV])
      clear hx hk hg hz hc1 hxx hk1 hlk
      by_cases d1 : x2 = 1
      · subst d1
        have hstep2 : Hid (freeV (l.take (k + 1)) = freeV (l.take k) ++ [true]) := Lib.hid (by rw [hstep.out]; simp)
        clear hstep
        have hstep := hstep2
        clear hstep2
        go_wp2_with (at_builtin; refine wpList_append_new _ rfl _ _ 50 rfl w.heap.size 4 i0 (.bool false) 1 1 Try.underlying50 hi0 hz0 hz1 hz2 rfl (by decide) _ k _ (by rfl) (HO.out.ext (by repeat (first | with_reducible exact Ext.refl _ | with_reducible refine Ext.drew ?_ | with_reducible refine Ext.drewN ?_ _ | with_reducible refine Ext.alloc ?_ _ | with_reducible refine Ext.setCell ?_ (by first | omega | (simp; done) | (simp; omega)) _))) #[.bool true] 1 (by first | rfl | (simp [Act.eval]; done) | (simp [Act.eval, go_sem]; done)) rfl (by simp; try rfl) (by have := HK.out; omega) (by decide) (by first | omega | (simp; omega)) ?_; intro v2 w2 hown2 hb2)
        go_roundg (gk - 1)
        case measure => have := HK.out; omega
        case rel =>
          refine ⟨by have := HK.out; omega, num_eq (by have := HK.out; omega), Lib.hid ?_, Ext.below (by repeat (first | with_reducible exact XR.out | with_reducible refine Ext.drew ?_ | with_reducible refine Ext.drewN ?_ _ | with_reducible refine Ext.alloc ?_ _ | with_reducible refine Ext.setCell ?_ (by first | omega | (simp; done) | (simp; omega)) _)) hb2⟩
          have e : n - (gk - 1) = k + 1 := by have := HK.out; omega
          rw [e, hstep.out]
          exact OwnB.snoc hown2
      · have e1 : (x2 == 1) = false := by simp [d1]
        have hstep2 : Hid (freeV (l.take (k + 1)) = freeV (l.take k) ++ [x2 == 2]) := Lib.hid (by rw [hstep.out]; congr 2; by_cases h2 : x2 = 2 <;> simp [d1, h2])
        clear hstep
        have hstep := hstep2
        clear hstep2
        go_wp2_with (at_builtin; refine wpList_append_new _ rfl _ _ 50 rfl w.heap.size 4 i0 (.bool false) 1 1 Try.underlying50 hi0 hz0 hz1 hz2 rfl (by decide) _ k _ (by rfl) (HO.out.ext (by repeat (first | with_reducible exact Ext.refl _ | with_reducible refine Ext.drew ?_ | with_reducible refine Ext.drewN ?_ _ | with_reducible refine Ext.alloc ?_ _ | with_reducible refine Ext.setCell ?_ (by first | omega | (simp; done) | (simp; omega)) _))) #[.bool (x2 == 2)] 1 (by first | rfl | (simp [Act.eval]; done) | (simp [Act.eval, go_sem]; done)) rfl (by simp; try rfl) (by have := HK.out; omega) (by decide) (by first | omega | (simp; omega)) ?_; intro v2 w2 hown2 hb2)
        go_roundg (gk - 1)
        case measure => have := HK.out; omega
        case rel =>
          refine ⟨by have := HK.out; omega, num_eq (by have := HK.out; omega), Lib.hid ?_, Ext.below (by repeat (first | with_reducible exact XR.out | with_reducible refine Ext.drew ?_ | with_reducible refine Ext.drewN ?_ _ | with_reducible refine Ext.alloc ?_ _ | with_reducible refine Ext.setCell ?_ (by first | omega | (simp; done) | (simp; omega)) _)) hb2⟩
          have e : n - (gk - 1) = k + 1 := by have := HK.out; omega
          rw [e, hstep.out]
          exact OwnB.snoc hown2
set_option maxRecDepth 100000 in
set_option maxHeartbeats 4000000 in
theorem rOne16_any (x0 x1 x2 x3 : Int) (x4 x5 : Bool) (A : Option Addr) (n c : Nat) (l : List (Int × Int × Int × Int × Bool × Bool)) (w : World) (h : Sl w 6 A n c (l.flatMap valC)) :
    Calls Try.prog 99 #[.agg #[.int .i64 x0, .int .u64 x1, .int .i64 x2, .int .i64 x3, .bool x4, .bool x5], .slice A n c] w fun e w' => e = .returned (.int .i64 (oneV x0 x1 x2 x3 x4 x5 (fndV l x0).2)) ∧ Ext w w' := by
  obtain ⟨⟨fi, db⟩, hF⟩ : ∃ F, F = fndV l x0 := ⟨_, rfl⟩
  rw [← hF]
  dsimp only
  have HF := Lib.hid hF
  have HS := Lib.hid h
  clear h hF
  by_cases a0 : x0 < 0
  · have hv : oneV x0 x1 x2 x3 x4 x5 db = 3 := by
      unfold oneV
      rw [if_pos (by omega)]
    rw [hv]
    clear hv
    go_enter Try.func99, Try.ntmps99
    go_wp2
    go_ret
    exact ⟨rfl, Ext.alloc (Ext.refl _) _⟩
  by_cases a1 : x0 ≥ 64
  · have hv : oneV x0 x1 x2 x3 x4 x5 db = 3 := by
      unfold oneV
      rw [if_pos (by omega)]
    rw [hv]
    clear hv
    go_enter Try.func99, Try.ntmps99
    go_wp2
    go_ret
    exact ⟨rfl, Ext.alloc (Ext.refl _) _⟩
  by_cases a2 : x2 < 1
  · have hv : oneV x0 x1 x2 x3 x4 x5 db = 3 := by
      unfold oneV
      rw [if_pos (by omega)]
    rw [hv]
    clear hv
    go_enter Try.func99, Try.ntmps99
    go_wp2
    go_ret
    exact ⟨rfl, Ext.alloc (Ext.refl _) _⟩
  by_cases a3 : x2 > 4
  · have hv : oneV x0 x1 x2 x3 x4 x5 db = 3 := by
      unfold oneV
      rw [if_pos (by omega)]
    rw [hv]
    clear hv
    go_enter Try.func99, Try.ntmps99
    go_wp2
    go_ret
    exact ⟨rfl, Ext.alloc (Ext.refl _) _⟩
  by_cases a4 : x3 < 0
  · have hv : oneV x0 x1 x2 x3 x4 x5 db = 3 := by
      unfold oneV
      rw [if_pos (by omega)]
    rw [hv]
    clear hv
    go_enter Try.func99, Try.ntmps99
    go_wp2
    go_ret
    exact ⟨rfl, Ext.alloc (Ext.refl _) _⟩
  by_cases a5 : x3 > 4296015872
  · have hv : oneV x0 x1 x2 x3 x4 x5 db = 3 := by
      unfold oneV
      rw [if_pos (by omega)]
    rw [hv]
    clear hv
    go_enter Try.func99, Try.ntmps99
    go_wp2
    go_ret
    exact ⟨rfl, Ext.alloc (Ext.refl _) _⟩
  by_cases b : x1 = 0
  · subst b
    have hv : oneV x0 0 x2 x3 x4 x5 db = 2 := by
      unfold oneV
      rw [if_neg (by omega), if_pos (by omega)]
    rw [hv]
    clear hv
    go_enter Try.func99, Try.ntmps99
    go_wp2
    go_ret
    exact ⟨rfl, Ext.alloc (Ext.refl _) _⟩
  have b1 : (x1 == 0) = false := by simp [b]
  cases db
  case true =>
    have hv : oneV x0 x1 x2 x3 x4 x5 true = 8 := by
      unfold oneV
      rw [if_neg (by omega), if_neg (by omega), if_pos (by first | decide | omega | simp_all | (simp; omega))]
    rw [hv]
    clear hv
    go_enter Try.func99, Try.ntmps99
    go_wp2_with fail
    (with_reducible refine (rFind16_ev A n c l x0 fi true _ (HS.out.ext (by repeat (first | with_reducible exact Ext.refl _ | with_reducible refine Ext.drew ?_ | with_reducible refine Ext.drewN ?_ _ | with_reducible refine Ext.alloc ?_ _ | with_reducible refine Ext.setCell ?_ (by first | omega | (simp; done) | (simp; omega)) _))) HF.out).mono ?_)
    rintro e w1 ⟨rfl, hx1⟩
    have z1 := hx1.size
    try simp at z1
    replace HS := Lib.hid (HS.out.ext (Ext.trans (by repeat (first | with_reducible exact Ext.refl _ | with_reducible refine Ext.drew ?_ | with_reducible refine Ext.drewN ?_ _ | with_reducible refine Ext.alloc ?_ _ | with_reducible refine Ext.setCell ?_ (by first | omega | (simp; done) | (simp; omega)) _)) hx1))
    have X1 : Hid (Ext w w1) := Lib.hid (Ext.trans (by repeat (first | with_reducible exact Ext.refl w | with_reducible refine Ext.drew ?_ | with_reducible refine Ext.drewN ?_ _ | with_reducible refine Ext.alloc ?_ _ | with_reducible refine Ext.setCell ?_ (by first | omega | (simp; done) | (simp; omega)) _)) hx1)
    clear hx1 z1
    go_wp2_with fail
    go_ret
    exact ⟨rfl, (by repeat (first | with_reducible exact X1.out | with_reducible refine Ext.drew ?_ | with_reducible refine Ext.drewN ?_ _ | with_reducible refine Ext.alloc ?_ _ | with_reducible refine Ext.setCell ?_ (by first | omega | (simp; done) | (simp; omega)) _))⟩
  case false =>
    by_cases c4 : x2 = 4
    · subst c4
      cases x4
      · have hv : oneV x0 x1 4 x3 false x5 false = 11 := by
          unfold oneV
          rw [if_neg (by omega), if_neg (by omega), if_neg (by first | decide | omega | simp_all | (simp; omega)), if_pos (by first | decide | omega | simp_all | (simp; omega))]
        rw [hv]
        clear hv
        go_enter Try.func99, Try.ntmps99
        go_wp2_with fail
        (with_reducible refine (rFind16_ev A n c l x0 fi false _ (HS.out.ext (by repeat (first | with_reducible exact Ext.refl _ | with_reducible refine Ext.drew ?_ | with_reducible refine Ext.drewN ?_ _ | with_reducible refine Ext.alloc ?_ _ | with_reducible refine Ext.setCell ?_ (by first | omega | (simp; done) | (simp; omega)) _))) HF.out).mono ?_)
        rintro e w1 ⟨rfl, hx1⟩
        have c0_2 : w1.cell? ⟨w.heap.size, 2, none⟩ = some (.int .i64 4) := hx1.has (by first | fail | (simp [go_sem, World.cell?_alloc_past]; done))
        have c0_4 : w1.cell? ⟨w.heap.size, 4, none⟩ = some (.bool false) := hx1.has (by first | fail | (simp [go_sem, World.cell?_alloc_past]; done))
        have z1 := hx1.size
        try simp at z1
        have rc0 : w.heap.size < w1.heap.size := by omega
        have rc0a : w.heap.size < w1.heap.size + 1 := by omega
        have rc0b : w.heap.size < w1.heap.size + 1 + 1 := by omega
        have rc0c : w.heap.size < w1.heap.size + 1 + 1 + 1 := by omega
        have rc0n : ¬ w.heap.size = w1.heap.size := by omega
        replace HS := Lib.hid (HS.out.ext (Ext.trans (by repeat (first | with_reducible exact Ext.refl _ | with_reducible refine Ext.drew ?_ | with_reducible refine Ext.drewN ?_ _ | with_reducible refine Ext.alloc ?_ _ | with_reducible refine Ext.setCell ?_ (by first | omega | (simp; done) | (simp; omega)) _)) hx1))
        have X1 : Hid (Ext w w1) := Lib.hid (Ext.trans (by repeat (first | with_reducible exact Ext.refl w | with_reducible refine Ext.drew ?_ | with_reducible refine Ext.drewN ?_ _ | with_reducible refine Ext.alloc ?_ _ | with_reducible refine Ext.setCell ?_ (by first | omega | (simp; done) | (simp; omega)) _)) hx1)
        clear hx1 z1
        go_wp2_with fail
        go_ret
        exact ⟨rfl, (by repeat (first | with_reducible exact X1.out | with_reducible refine Ext.drew ?_ | with_reducible refine Ext.drewN ?_ _ | with_reducible refine Ext.alloc ?_ _ | with_reducible refine Ext.setCell ?_ (by first | omega | (simp; done) | (simp; omega)) _))⟩
      · by_cases d : x3 = 0
        · subst d
          have hv : oneV x0 x1 4 0 true x5 false = 11 := by
            unfold oneV
            rw [if_neg (by omega), if_neg (by omega), if_neg (by first | decide | omega | simp_all | (simp; omega)), if_pos (by first | decide | omega | simp_all | (simp; omega))]
          rw [hv]
          clear hv
          go_enter Try.func99, Try.ntmps99
          go_wp2_with fail
          (with_reducible refine (rFind16_ev A n c l x0 fi false _ (HS.out.ext (by repeat (first | with_reducible exact Ext.refl _ | with_reducible refine Ext.drew ?_ | with_reducible refine Ext.drewN ?_ _ | with_reducible refine Ext.alloc ?_ _ | with_reducible refine Ext.setCell ?_ (by first | omega | (simp; done) | (simp; omega)) _))) HF.out).mono ?_)
          rintro e w1 ⟨rfl, hx1⟩
          have c0_2 : w1.cell? ⟨w.heap.size, 2, none⟩ = some (.int .i64 4) := hx1.has (by first | fail | (simp [go_sem, World.cell?_alloc_past]; done))
          have c0_3 : w1.cell? ⟨w.heap.size, 3, none⟩ = some (.int .i64 0) := hx1.has (by first | fail | (simp [go_sem, World.cell?_alloc_past]; done))
          have c0_4 : w1.cell? ⟨w.heap.size, 4, none⟩ = some (.bool true) := hx1.has (by first | fail | (simp [go_sem, World.cell?_alloc_past]; done))
          have z1 := hx1.size
          try simp at z1
          have rc0 : w.heap.size < w1.heap.size := by omega
          have rc0a : w.heap.size < w1.heap.size + 1 := by omega
          have rc0b : w.heap.size < w1.heap.size + 1 + 1 := by omega
          have rc0c : w.heap.size < w1.heap.size + 1 + 1 + 1 := by omega
          have rc0n : ¬ w.heap.size = w1.heap.size := by omega
          replace HS := Lib.hid (HS.out.ext (Ext.trans (by repeat (first | with_reducible exact Ext.refl _ | with_reducible refine Ext.drew ?_ | with_reducible refine Ext.drewN ?_ _ | with_reducible refine Ext.alloc ?_ _ | with_reducible refine Ext.setCell ?_ (by first | omega | (simp; done) | (simp; omega)) _)) hx1))
          have X1 : Hid (Ext w w1) := Lib.hid (Ext.trans (by repeat (first | with_reducible exact Ext.refl w | with_reducible refine Ext.drew ?_ | with_reducible refine Ext.drewN ?_ _ | with_reducible refine Ext.alloc ?_ _ | with_reducible refine Ext.setCell ?_ (by first | omega | (simp; done) | (simp; omega)) _)) hx1)
          clear hx1 z1
          go_wp2_with fail
          go_ret
          exact ⟨rfl, (by repeat (first | with_reducible exact X1.out | with_reducible refine Ext.drew ?_ | with_reducible refine Ext.drewN ?_ _ | with_reducible refine Ext.alloc ?_ _ | with_reducible refine Ext.setCell ?_ (by first | omega | (simp; done) | (simp; omega)) _))⟩
        · have d1 : (x3 == 0) = false := by simp [d]
          have hv : oneV x0 x1 4 x3 true x5 false = 0 := by
            unfold oneV
            rw [if_neg (by omega), if_neg (by omega), if_neg (by first | decide | omega | simp_all | (simp; omega)), if_neg (by first | decide | omega | simp_all | (simp; omega))]
          rw [hv]
          clear hv
          go_enter Try.func99, Try.ntmps99
          go_wp2_with fail
          (with_reducible refine (rFind16_ev A n c l x0 fi false _ (HS.out.ext (by repeat (first | with_reducible exact Ext.refl _ | with_reducible refine Ext.drew ?_ | with_reducible refine Ext.drewN ?_ _ | with_reducible refine Ext.alloc ?_ _ | with_reducible refine Ext.setCell ?_ (by first | omega | (simp; done) | (simp; omega)) _))) HF.out).mono ?_)
          rintro e w1 ⟨rfl, hx1⟩
          have c0_2 : w1.cell? ⟨w.heap.size, 2, none⟩ = some (.int .i64 4) := hx1.has (by first | fail | (simp [go_sem, World.cell?_alloc_past]; done))
          have c0_3 : w1.cell? ⟨w.heap.size, 3, none⟩ = some (.int .i64 x3) := hx1.has (by first | fail | (simp [go_sem, World.cell?_alloc_past]; done))
          have c0_4 : w1.cell? ⟨w.heap.size, 4, none⟩ = some (.bool true) := hx1.has (by first | fail | (simp [go_sem, World.cell?_alloc_past]; done))
          have z1 := hx1.size
          try simp at z1
          have rc0 : w.heap.size < w1.heap.size := by omega
          have rc0a : w.heap.size < w1.heap.size + 1 := by omega
          have rc0b : w.heap.size < w1.heap.size + 1 + 1 := by omega
          have rc0c : w.heap.size < w1.heap.size + 1 + 1 + 1 := by omega
          have rc0n : ¬ w.heap.size = w1.heap.size := by omega
          replace HS := Lib.hid (HS.out.ext (Ext.trans (by repeat (first | with_reducible exact Ext.refl _ | with_reducible refine Ext.drew ?_ | with_reducible refine Ext.drewN ?_ _ | with_reducible refine Ext.alloc ?_ _ | with_reducible refine Ext.setCell ?_ (by first | omega | (simp; done) | (simp; omega)) _)) hx1))
          have X1 : Hid (Ext w w1) := Lib.hid (Ext.trans (by repeat (first | with_reducible exact Ext.refl w | with_reducible refine Ext.drew ?_ | with_reducible refine Ext.drewN ?_ _ | with_reducible refine Ext.alloc ?_ _ | with_reducible refine Ext.setCell ?_ (by first | omega | (simp; done) | (simp; omega)) _)) hx1)
          clear hx1 z1
          go_wp2_with fail
          go_ret
          exact ⟨rfl, (by repeat (first | with_reducible exact X1.out | with_reducible refine Ext.drew ?_ | with_reducible refine Ext.drewN ?_ _ | with_reducible refine Ext.alloc ?_ _ | with_reducible refine Ext.setCell ?_ (by first | omega | (simp; done) | (simp; omega)) _))⟩
    · have c1 : (x2 == 4) = false := by simp [c4]
      cases x4
      · by_cases d : x3 = 0
        · subst d
          by_cases e : x2 = 3
          · subst e
            have hv : oneV x0 x1 3 0 false x5 false = 11 := by
              unfold oneV
              rw [if_neg (by omega), if_neg (by omega), if_neg (by first | decide | omega | simp_all | (simp; omega)), if_pos (by first | decide | omega | simp_all | (simp; omega))]
            rw [hv]
            clear hv
            go_enter Try.func99, Try.ntmps99
            go_wp2_with fail
            (with_reducible refine (rFind16_ev A n c l x0 fi false _ (HS.out.ext (by repeat (first | with_reducible exact Ext.refl _ | with_reducible refine Ext.drew ?_ | with_reducible refine Ext.drewN ?_ _ | with_reducible refine Ext.alloc ?_ _ | with_reducible refine Ext.setCell ?_ (by first | omega | (simp; done) | (simp; omega)) _))) HF.out).mono ?_)
            rintro e w1 ⟨rfl, hx1⟩
            have c0_2 : w1.cell? ⟨w.heap.size, 2, none⟩ = some (.int .i64 3) := hx1.has (by first | fail | (simp [go_sem, World.cell?_alloc_past]; done))
            have c0_3 : w1.cell? ⟨w.heap.size, 3, none⟩ = some (.int .i64 0) := hx1.has (by first | fail | (simp [go_sem, World.cell?_alloc_past]; done))
            have c0_4 : w1.cell? ⟨w.heap.size, 4, none⟩ = some (.bool false) := hx1.has (by first | fail | (simp [go_sem, World.cell?_alloc_past]; done))
            have z1 := hx1.size
            try simp at z1
            have rc0 : w.heap.size < w1.heap.size := by omega
            have rc0a : w.heap.size < w1.heap.size + 1 := by omega
            have rc0b : w.heap.size < w1.heap.size + 1 + 1 := by omega
            have rc0c : w.heap.size < w1.heap.size + 1 + 1 + 1 := by omega
            have rc0n : ¬ w.heap.size = w1.heap.size := by omega
            replace HS := Lib.hid (HS.out.ext (Ext.trans (by repeat (first | with_reducible exact Ext.refl _ | with_reducible refine Ext.drew ?_ | with_reducible refine Ext.drewN ?_ _ | with_reducible refine Ext.alloc ?_ _ | with_reducible refine Ext.setCell ?_ (by first | omega | (simp; done) | (simp; omega)) _)) hx1))
            have X1 : Hid (Ext w w1) := Lib.hid (Ext.trans (by repeat (first | with_reducible exact Ext.refl w | with_reducible refine Ext.drew ?_ | with_reducible refine Ext.drewN ?_ _ | with_reducible refine Ext.alloc ?_ _ | with_reducible refine Ext.setCell ?_ (by first | omega | (simp; done) | (simp; omega)) _)) hx1)
            clear hx1 z1
            go_wp2_with fail
            go_ret
            exact ⟨rfl, (by repeat (first | with_reducible exact X1.out | with_reducible refine Ext.drew ?_ | with_reducible refine Ext.drewN ?_ _ | with_reducible refine Ext.alloc ?_ _ | with_reducible refine Ext.setCell ?_ (by first | omega | (simp; done) | (simp; omega)) _))⟩
          · have e1 : (x2 == 3) = false := by simp [e]
            cases x5
            · have hv : oneV x0 x1 x2 0 false false false = 0 := by
                unfold oneV
                rw [if_neg (by omega), if_neg (by omega), if_neg (by first | decide | omega | simp_all | (simp; omega)), if_neg (by first | decide | omega | simp_all | (simp; omega))]
              rw [hv]
              clear hv
              go_enter Try.func99, Try.ntmps99
              go_wp2_with fail
              (with_reducible refine (rFind16_ev A n c l x0 fi false _ (HS.out.ext (by repeat (first | with_reducible exact Ext.refl _ | with_reducible refine Ext.drew ?_ | with_reducible refine Ext.drewN ?_ _ | with_reducible refine Ext.alloc ?_ _ | with_reducible refine Ext.setCell ?_ (by first | omega | (simp; done) | (simp; omega)) _))) HF.out).mono ?_)
              rintro e w1 ⟨rfl, hx1⟩
              have c0_2 : w1.cell? ⟨w.heap.size, 2, none⟩ = some (.int .i64 x2) := hx1.has (by first | fail | (simp [go_sem, World.cell?_alloc_past]; done))
              have c0_3 : w1.cell? ⟨w.heap.size, 3, none⟩ = some (.int .i64 0) := hx1.has (by first | fail | (simp [go_sem, World.cell?_alloc_past]; done))
              have c0_4 : w1.cell? ⟨w.heap.size, 4, none⟩ = some (.bool false) := hx1.has (by first | fail | (simp [go_sem, World.cell?_alloc_past]; done))
              have c0_5 : w1.cell? ⟨w.heap.size, 5, none⟩ = some (.bool false) := hx1.has (by first | fail | (simp [go_sem, World.cell?_alloc_past]; done))
              have z1 := hx1.size
              try simp at z1
              have rc0 : w.heap.size < w1.heap.size := by omega
              have rc0a : w.heap.size < w1.heap.size + 1 := by omega
              have rc0b : w.heap.size < w1.heap.size + 1 + 1 := by omega
              have rc0c : w.heap.size < w1.heap.size + 1 + 1 + 1 := by omega
              have rc0n : ¬ w.heap.size = w1.heap.size := by omega
              replace HS := Lib.hid (HS.out.ext (Ext.trans (by repeat (first | with_reducible exact Ext.refl _ | with_reducible refine Ext.drew ?_ | with_reducible refine Ext.drewN ?_ _ | with_reducible refine Ext.alloc ?_ _ | with_reducible refine Ext.setCell ?_ (by first | omega | (simp; done) | (simp; omega)) _)) hx1))
              have X1 : Hid (Ext w w1) := Lib.hid (Ext.trans (by repeat (first | with_reducible exact Ext.refl w | with_reducible refine Ext.drew ?_ | with_reducible refine Ext.drewN ?_ _ | with_reducible refine Ext.alloc ?_ _ | with_reducible refine Ext.setCell ?_ (by first | omega | (simp; done) | (simp; omega)) _)) hx1)
              clear hx1 z1
              go_wp2_with fail
              go_ret
              exact ⟨rfl, (by repeat (first | with_reducible exact X1.out | with_reducible refine Ext.drew ?_ | with_reducible refine Ext.drewN ?_ _ | with_reducible refine Ext.alloc ?_ _ | with_reducible refine Ext.setCell ?_ (by first | omega | (simp; done) | (simp; omega)) _))⟩
            · have hv : oneV x0 x1 x2 0 false true false = 11 := by
                unfold oneV
                rw [if_neg (by omega), if_neg (by omega), if_neg (by first | decide | omega | simp_all | (simp; omega)), if_pos (by first | decide | omega | simp_all | (simp; omega))]
              rw [hv]
              clear hv
              go_enter Try.func99, Try.ntmps99
              go_wp2_with fail
              (with_reducible refine (rFind16_ev A n c l x0 fi false _ (HS.out.ext (by repeat (first | with_reducible exact Ext.refl _ | with_reducible refine Ext.drew ?_ | with_reducible refine Ext.drewN ?_ _ | with_reducible refine Ext.alloc ?_ _ | with_reducible refine Ext.setCell ?_ (by first | omega | (simp; done) | (simp; omega)) _))) HF.out).mono ?_)
              rintro e w1 ⟨rfl, hx1⟩
              have c0_2 : w1.cell? ⟨w.heap.size, 2, none⟩ = some (.int .i64 x2) := hx1.has (by first | fail | (simp [go_sem, World.cell?_alloc_past]; done))
              have c0_3 : w1.cell? ⟨w.heap.size, 3, none⟩ = some (.int .i64 0) := hx1.has (by first | fail | (simp [go_sem, World.cell?_alloc_past]; done))
              have c0_4 : w1.cell? ⟨w.heap.size, 4, none⟩ = some (.bool false) := hx1.has (by first | fail | (simp [go_sem, World.cell?_alloc_past]; done))
              have c0_5 : w1.cell? ⟨w.heap.size, 5, none⟩ = some (.bool true) := hx1.has (by first | fail | (simp [go_sem, World.cell?_alloc_past]; done))
              have z1 := hx1.size
              try simp at z1
              have rc0 : w.heap.size < w1.heap.size := by omega
              have rc0a : w.heap.size < w1.heap.size + 1 := by omega
              have rc0b : w.heap.size < w1.heap.size + 1 + 1 := by omega
              have rc0c : w.heap.size < w1.heap.size + 1 + 1 + 1 := by omega
              have rc0n : ¬ w.heap.size = w1.heap.size := by omega
              replace HS := Lib.hid (HS.out.ext (Ext.trans (by repeat (first | with_reducible exact Ext.refl _ | with_reducible refine Ext.drew ?_ | with_reducible refine Ext.drewN ?_ _ | with_reducible refine Ext.alloc ?_ _ | with_reducible refine Ext.setCell ?_ (by first | omega | (simp; done) | (simp; omega)) _)) hx1))
              have X1 : Hid (Ext w w1) := Lib.hid (Ext.trans (by repeat (first | with_reducible exact Ext.refl w | with_reducible refine Ext.drew ?_ | with_reducible refine Ext.drewN ?_ _ | with_reducible refine Ext.alloc ?_ _ | with_reducible refine Ext.setCell ?_ (by first | omega | (simp; done) | (simp; omega)) _)) hx1)
              clear hx1 z1
              go_wp2_with fail
              go_ret
              exact ⟨rfl, (by repeat (first | with_reducible exact X1.out | with_reducible refine Ext.drew ?_ | with_reducible refine Ext.drewN ?_ _ | with_reducible refine Ext.alloc ?_ _ | with_reducible refine Ext.setCell ?_ (by first | omega | (simp; done) | (simp; omega)) _))⟩
        · have d1 : (x3 == 0) = false := by simp [d]
          have hv : oneV x0 x1 x2 x3 false x5 false = 0 := by
            unfold oneV
            rw [if_neg (by omega), if_neg (by omega), if_neg (by first | decide | omega | simp_all | (simp; omega)), if_neg (by first | decide | omega | simp_all | (simp; omega))]
          rw [hv]
          clear hv
          go_enter Try.func99, Try.ntmps99
          go_wp2_with fail
          (with_reducible refine (rFind16_ev A n c l x0 fi false _ (HS.out.ext (by repeat (first | with_reducible exact Ext.refl _ | with_reducible refine Ext.drew ?_ | with_reducible refine Ext.drewN ?_ _ | with_reducible refine Ext.alloc ?_ _ | with_reducible refine Ext.setCell ?_ (by first | omega | (simp; done) | (simp; omega)) _))) HF.out).mono ?_)
          rintro e w1 ⟨rfl, hx1⟩
          have c0_2 : w1.cell? ⟨w.heap.size, 2, none⟩ = some (.int .i64 x2) := hx1.has (by first | fail | (simp [go_sem, World.cell?_alloc_past]; done))
          have c0_3 : w1.cell? ⟨w.heap.size, 3, none⟩ = some (.int .i64 x3) := hx1.has (by first | fail | (simp [go_sem, World.cell?_alloc_past]; done))
          have c0_4 : w1.cell? ⟨w.heap.size, 4, none⟩ = some (.bool false) := hx1.has (by first | fail | (simp [go_sem, World.cell?_alloc_past]; done))
          have z1 := hx1.size
          try simp at z1
          have rc0 : w.heap.size < w1.heap.size := by omega
          have rc0a : w.heap.size < w1.heap.size + 1 := by omega
          have rc0b : w.heap.size < w1.heap.size + 1 + 1 := by omega
          have rc0c : w.heap.size < w1.heap.size + 1 + 1 + 1 := by omega
          have rc0n : ¬ w.heap.size = w1.heap.size := by omega
          replace HS := Lib.hid (HS.out.ext (Ext.trans (by repeat (first | with_reducible exact Ext.refl _ | with_reducible refine Ext.drew ?_ | with_reducible refine Ext.drewN ?_ _ | with_reducible refine Ext.alloc ?_ _ | with_reducible refine Ext.setCell ?_ (by first | omega | (simp; done) | (simp; omega)) _)) hx1))
          have X1 : Hid (Ext w w1) := Lib.hid (Ext.trans (by repeat (first | with_reducible exact Ext.refl w | with_reducible refine Ext.drew ?_ | with_reducible refine Ext.drewN ?_ _ | with_reducible refine Ext.alloc ?_ _ | with_reducible refine Ext.setCell ?_ (by first | omega | (simp; done) | (simp; omega)) _)) hx1)
          clear hx1 z1
          go_wp2_with fail
          go_ret
          exact ⟨rfl, (by repeat (first | with_reducible exact X1.out | with_reducible refine Ext.drew ?_ | with_reducible refine Ext.drewN ?_ _ | with_reducible refine Ext.alloc ?_ _ | with_reducible refine Ext.setCell ?_ (by first | omega | (simp; done) | (simp; omega)) _))⟩
      · have hv : oneV x0 x1 x2 x3 true x5 false = 11 := by
          unfold oneV
          rw [if_neg (by omega), if_neg (by omega), if_neg (by first | decide | omega | simp_all | (simp; omega)), if_pos (by first | decide | omega | simp_all | (simp; omega))]
        rw [hv]
        clear hv
        go_enter Try.func99, Try.ntmps99
        go_wp2_with fail
        (with_reducible refine (rFind16_ev A n c l x0 fi false _ (HS.out.ext (by repeat (first | with_reducible exact Ext.refl _ | with_reducible refine Ext.drew ?_ | with_reducible refine Ext.drewN ?_ _ | with_reducible refine Ext.alloc ?_ _ | with_reducible refine Ext.setCell ?_ (by first | omega | (simp; done) | (simp; omega)) _))) HF.out).mono ?_)
        rintro e w1 ⟨rfl, hx1⟩
        have c0_2 : w1.cell? ⟨w.heap.size, 2, none⟩ = some (.int .i64 x2) := hx1.has (by first | fail | (simp [go_sem, World.cell?_alloc_past]; done))
        have c0_4 : w1.cell? ⟨w.heap.size, 4, none⟩ = some (.bool true) := hx1.has (by first | fail | (simp [go_sem, World.cell?_alloc_past]; done))
        have z1 := hx1.size
        try simp at z1
        have rc0 : w.heap.size < w1.heap.size := by omega
        have rc0a : w.heap.size < w1.heap.size + 1 := by omega
        have rc0b : w.heap.size < w1.heap.size + 1 + 1 := by omega
        have rc0c : w.heap.size < w1.heap.size + 1 + 1 + 1 := by omega
        have rc0n : ¬ w.heap.size = w1.heap.size := by omega
        replace HS := Lib.hid (HS.out.ext (Ext.trans (by repeat (first | with_reducible exact Ext.refl _ | with_reducible refine Ext.drew ?_ | with_reducible refine Ext.drewN ?_ _ | with_reducible refine Ext.alloc ?_ _ | with_reducible refine Ext.setCell ?_ (by first | omega | (simp; done) | (simp; omega)) _)) hx1))
        have X1 : Hid (Ext w w1) := Lib.hid (Ext.trans (by repeat (first | with_reducible exact Ext.refl w | with_reducible refine Ext.drew ?_ | with_reducible refine Ext.drewN ?_ _ | with_reducible refine Ext.alloc ?_ _ | with_reducible refine Ext.setCell ?_ (by first | omega | (simp; done) | (simp; omega)) _)) hx1)
        clear hx1 z1
        go_wp2_with fail
        go_ret
        exact ⟨rfl, (by repeat (first | with_reducible exact X1.out | with_reducible refine Ext.drew ?_ | with_reducible refine Ext.drewN ?_ _ | with_reducible refine Ext.alloc ?_ _ | with_reducible refine Ext.setCell ?_ (by first | omega | (simp; done) | (simp; omega)) _))⟩
end Go.Proofs.Ytjdpgapmdmpjjaa
