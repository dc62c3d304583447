/- roster: what is refused, who is free, who is active; lists of bools. Conditions stand in each lemma. -/
import Derived.Test.YtjdpgapmdmpjjaaRos3
set_option linter.unusedVariables false
set_option linter.unusedSimpArgs false
namespace Go.Proofs.Ytjdpgapmdmpjjaa
open Go.RowKit Go.ChangeShapes Go.WideShapes Go.Deep Go.Joins

/-- a list of bools of one's own -/
def OwnB (w : World) (base : Nat) (v : Value) (n : Nat) (l : List Bool) : Prop := w.ownsRow base 4 1 v n (l.map Value.bool)
theorem OwnB.ext {w w' : World} {base n : Nat} {v : Value} {l : List Bool} (h : OwnB w base v n l) (hx : Ext w w') : OwnB w' base v n l := own_keep h hx
theorem OwnB.sl {w : World} {base n c : Nat} {A : Option Addr} {l : List Bool} (h : OwnB w base (.slice A n c) n l) : Sl w 1 A n c (l.map Value.bool) := Sl.own h
theorem OwnB.nil (w : World) (base : Nat) : OwnB w base (.slice none 0 0) 0 [] := World.ownsRow_nil _ _ _ _
theorem OwnB.snoc {w : World} {base n : Nat} {v : Value} {l : List Bool} {b : Bool} (h : w.ownsRow base 4 1 v (n + 1) (l.map Value.bool ++ [.bool b])) : OwnB w base v (n + 1) (l ++ [b]) := by
  unfold OwnB
  rw [List.map_append]
  exact h
theorem bool_info : (Try.prog.info? 4).map (fun i => (i.zero, i.size, i.bytes)) = some (some (.bool false), 1, 1) := by kernel_rfl
def RetB (l : List Bool) (w : World) (e : Ending) (w' : World) : Prop := ∃ A c, e = .returned (.slice A l.length c) ∧ (A = none → c = 0) ∧ OwnB w' w.heap.size (.slice A l.length c) l.length l ∧ Ext w w'
theorem RetB.mk {l : List Bool} {n : Nat} {w w' : World} {v : Value} (h : OwnB w' w.heap.size v n l) (hx : Ext w w') (hn : n = l.length) : RetB l w (.returned v) w' := by
  subst hn
  obtain ⟨A, c, rfl, h1, h2⟩ := own_parts2 h
  exact ⟨A, c, rfl, h1, h, hx⟩
theorem rosLets_ev (st : Int) (t j f : Bool) (w : World) (ht : t = decide (st ≠ 4)) (hj : j = decide (st = 3)) (hf : f = decide (st = 1 ∨ st = 2)) : Calls Try.prog 100 #[.int .i64 st] w fun e w' => e = .returned (.tuple #[.bool t, .bool j, .bool f]) ∧ Ext w w' := by
  rw [ht, hj, hf]
  exact rosLets_any st w
/-- what is refused -/
def rfsV (l : List (Int × Int × Int × Int × Bool × Bool)) (v : Int) : Int := if v < 0 ∨ v ≥ l.length then 10 else if (l[v.toNat]?).map (fun x => x.2.2.1) = some 4 then 20 else 0
set_option maxRecDepth 100000 in
set_option maxHeartbeats 1000000 in
theorem rosRefuse_any (A : Option Addr) (n c : Nat) (l : List (Int × Int × Int × Int × Bool × Bool)) (v : Int) (w : World) (h : Sl w 6 A n c (l.flatMap valC)) :
    Calls Try.prog 46 #[.slice A n c, .int .i64 v] w fun e w' => e = .returned (.int .i64 (rfsV l v)) ∧ Ext w w' := by
  have hl := h.rlen valC_len (by decide)
  have s1 := h.small
  have HS := Lib.hid h
  have HL := Lib.hid hl
  by_cases h0 : v < 0
  · have hv : rfsV l v = 10 := by unfold rfsV; rw [if_pos (by omega)]
    rw [hv]
    clear hv h hl
    go_enter Try.func46, Try.ntmps46
    go_wp2
    go_ret
    exact ⟨rfl, Ext.refl _⟩
  by_cases h1 : v ≥ n
  · have hv : rfsV l v = 10 := by unfold rfsV; rw [if_pos (by omega)]
    rw [hv]
    clear hv h hl
    go_enter Try.func46, Try.ntmps46
    go_wp2
    go_ret
    exact ⟨rfl, Ext.refl _⟩
  obtain ⟨k, rfl⟩ : ∃ k : Nat, v = (k : Int) := ⟨v.toNat, by omega⟩
  have hg : True := trivial
  have hz : True := trivial
  have hk : True := trivial
  have XR : Hid (Ext w w) := Lib.hid (Ext.refl w)
  have hkn : (k : Int) < n := by omega
  have hkn2 : ¬ (k : Int) ≥ n := h1
  have hk1 : k < l.length := by have := HL.out; omega
  obtain ⟨b1, o1, rfl, hb1, hc1⟩ := HS.out.rec_ valC_len (show 0 < n from by omega)
  have x_0 := (hc1 k _ (List.getElem?_eq_getElem hk1) 0 _ rfl)
  have x_1 := (hc1 k _ (List.getElem?_eq_getElem hk1) 1 _ rfl)
  have x_2 := (hc1 k _ (List.getElem?_eq_getElem hk1) 2 _ rfl)
  have x_3 := (hc1 k _ (List.getElem?_eq_getElem hk1) 3 _ rfl)
  have x_4 := (hc1 k _ (List.getElem?_eq_getElem hk1) 4 _ rfl)
  have x_5 := (hc1 k _ (List.getElem?_eq_getElem hk1) 5 _ rfl)
  obtain ⟨x, hxx⟩ : ∃ x, x = l[k] := ⟨_, rfl⟩
  have hlk : l[k]? = some x := by rw [hxx]; exact List.getElem?_eq_getElem hk1
  rw [← hxx] at x_0 x_1 x_2 x_3 x_4 x_5
  obtain ⟨x0, x1, x2, x3, x4, x5⟩ := x
  simp only at x_0 x_1 x_2 x_3 x_4 x_5
  rw [Nat.add_zero] at x_0
  rw [← Nat.add_assoc] at x_1 x_2 x_3 x_4 x_5
  have HQ := Lib.hid hlk
  have HK := Lib.hid (And.intro hk (And.intro hg hz))
  have hv : rfsV l (k : Int) = if x2 = 4 then 20 else 0 := by
    unfold rfsV
    rw [if_neg (by omega), show ((k : Int)).toNat = k from by simp, hlk]
    simp
  rw [hv]
  clear hv h hl hk hg hz hc1 hxx hk1 hlk XR HK h1
  by_cases hE : x2 = 4
  · subst hE
    go_enter Try.func46, Try.ntmps46
    go_wp2_with fail
    (with_reducible refine (rosLets_any (4) _).mono ?_)
    rintro e w11 ⟨rfl, hx11⟩
    have z11 := hx11.size
    try simp at z11
    have X11 : Hid (Ext w w11) := Lib.hid (Ext.trans (by repeat (first | with_reducible exact Ext.refl w | with_reducible refine Ext.drew ?_ | with_reducible refine Ext.drewN ?_ _ | with_reducible refine Ext.alloc ?_ _ | with_reducible refine Ext.setCell ?_ (by first | omega | (simp; done) | (simp; omega)) _)) hx11)
    clear x_1 x_5 x_4 x_2 x_0 x_3 hx11 z11
    go_wp2_with fail
    go_ret
    exact ⟨rfl, (by repeat (first | with_reducible exact X11.out | with_reducible refine Ext.drew ?_ | with_reducible refine Ext.drewN ?_ _ | with_reducible refine Ext.alloc ?_ _ | with_reducible refine Ext.setCell ?_ (by first | omega | (simp; done) | (simp; omega)) _))⟩
  · have e4 : decide (x2 ≠ 4) = true := by simp [hE]
    rw [if_neg hE]
    go_enter Try.func46, Try.ntmps46
    go_wp2_with fail
    (with_reducible refine (rosLets_any (x2) _).mono ?_)
    rintro e w11 ⟨rfl, hx11⟩
    have z11 := hx11.size
    try simp at z11
    have X11 : Hid (Ext w w11) := Lib.hid (Ext.trans (by repeat (first | with_reducible exact Ext.refl w | with_reducible refine Ext.drew ?_ | with_reducible refine Ext.drewN ?_ _ | with_reducible refine Ext.alloc ?_ _ | with_reducible refine Ext.setCell ?_ (by first | omega | (simp; done) | (simp; omega)) _)) hx11)
    clear x_1 x_5 x_4 x_2 x_0 x_3 hx11 z11
    go_wp2_with fail
    go_ret
    exact ⟨rfl, (by repeat (first | with_reducible exact X11.out | with_reducible refine Ext.drew ?_ | with_reducible refine Ext.drewN ?_ _ | with_reducible refine Ext.alloc ?_ _ | with_reducible refine Ext.setCell ?_ (by first | omega | (simp; done) | (simp; omega)) _))⟩
/-- Free -/
def freeV (l : List (Int × Int × Int × Int × Bool × Bool)) : List Bool := l.map (fun x => decide (x.2.2.1 = 1 ∨ x.2.2.1 = 2))
set_option maxRecDepth 100000 in
set_option maxHeartbeats 1000000 in
theorem rosFree_any (A : Option Addr) (n c : Nat) (l : List (Int × Int × Int × Int × Bool × Bool)) (w : World) (h : Sl w 6 A n c (l.flatMap valC)) (hn : n < 1099511627776) :
    Calls Try.prog 42 #[.slice A n c] w (RetB (freeV l) w) := by
  have hl := h.rlen valC_len (by decide)
  have s1 := h.small
  have HS := Lib.hid h
  have HL := Lib.hid hl
  obtain ⟨i0, hi0, hz0, hz1, hz2⟩ := info_parts bool_info
  clear h hl
  go_enter Try.func42, Try.ntmps42
  go_wp2
  go_loopg [3, 11] n (fun gh q i wx => gh ≤ n ∧ i = .int .i64 ((n - gh : Nat) : Int) ∧ Hid (OwnB wx w.heap.size q (n - gh) (freeV (l.take (n - gh)))) ∧ Ext w wx)
  case atStart => exact ⟨Nat.le_refl _, by simp, Lib.hid (by rw [Nat.sub_self]; exact OwnB.nil _ _), Ext.refl _⟩
  case round =>
    obtain ⟨hg, hi, ho, hx⟩ := hrel
    obtain ⟨k, hk⟩ : ∃ k, k = n - gk := ⟨_, rfl⟩
    rw [← hk] at hi ho
    subst hi
    have XR := Lib.hid hx
    by_cases hz : gk = 0
    · have hkn : ¬ (k : Int) < n := by omega
      have hk2 : k = l.length := by have := HL.out; omega
      have HR := Lib.hid (RetB.mk (l := freeV l) (by have h := ho.out; rw [List.take_of_length_le (by omega)] at h; exact h) hx (by simp [freeV, hk2]))
      clear hx hk hg hz ho hk2
      go_wp2
      go_ret
      exact HR.out
    · have HO := ho
      have hrm := Ext.size hx
      clear ho
      have hkn : (k : Int) < n := by omega
      have hk1 : k < l.length := by have := HL.out; omega
      obtain ⟨b1, o1, rfl, hb1, hc1⟩ := HS.out.rec_ valC_len (show 0 < n from by omega)
      have x_0 := XR.out.has (hc1 k _ (List.getElem?_eq_getElem hk1) 0 _ rfl)
      have x_1 := XR.out.has (hc1 k _ (List.getElem?_eq_getElem hk1) 1 _ rfl)
      have x_2 := XR.out.has (hc1 k _ (List.getElem?_eq_getElem hk1) 2 _ rfl)
      have x_3 := XR.out.has (hc1 k _ (List.getElem?_eq_getElem hk1) 3 _ rfl)
      have x_4 := XR.out.has (hc1 k _ (List.getElem?_eq_getElem hk1) 4 _ rfl)
      have x_5 := XR.out.has (hc1 k _ (List.getElem?_eq_getElem hk1) 5 _ rfl)
      obtain ⟨x, hxx⟩ : ∃ x, x = l[k] := ⟨_, rfl⟩
      have hlk : l[k]? = some x := by rw [hxx]; exact List.getElem?_eq_getElem hk1
      rw [← hxx] at x_0 x_1 x_2 x_3 x_4 x_5
      obtain ⟨x0, x1, x2, x3, x4, x5⟩ := x
      simp only at x_0 x_1 x_2 x_3 x_4 x_5
      rw [Nat.add_zero] at x_0
      rw [← Nat.add_assoc] at x_1 x_2 x_3 x_4 x_5
      have HQ := Lib.hid hlk
      have HK := Lib.hid (And.intro hk (And.intro hg hz))
      have hstep : Hid (freeV (l.take (k + 1)) = freeV (l.take k) ++ [decide (x2 = 1 ∨ x2 = 2)]) := Lib.hid (by rw [valC_take hlk]; simp [freeV])
      clear hx hk hg hz hc1 hxx hk1 hlk
      obtain ⟨tv, htv⟩ : ∃ b : Bool, b = decide (x2 ≠ 4) := ⟨_, rfl⟩
      obtain ⟨jv, hjv⟩ : ∃ b : Bool, b = decide (x2 = 3) := ⟨_, rfl⟩
      obtain ⟨fv, hfv⟩ : ∃ b : Bool, b = decide (x2 = 1 ∨ x2 = 2) := ⟨_, rfl⟩
      rw [← hfv] at hstep
      have HTV := Lib.hid htv
      have HJV := Lib.hid hjv
      have HFV := Lib.hid hfv
      clear htv hjv hfv
      go_wp2_with fail
      (with_reducible refine (rosLets_ev x2 tv jv fv _ HTV.out HJV.out HFV.out).mono ?_)
      rintro e w11 ⟨rfl, hx11⟩
      have z11 := hx11.size
      try simp at z11
      replace HO := Lib.hid (HO.out.ext (Ext.trans (by repeat (first | with_reducible exact Ext.refl _ | with_reducible refine Ext.drew ?_ | with_reducible refine Ext.drewN ?_ _ | with_reducible refine Ext.alloc ?_ _ | with_reducible refine Ext.setCell ?_ (by first | omega | (simp; done) | (simp; omega)) _)) hx11))
      have X11 : Hid (Ext w w11) := Lib.hid (Ext.trans (by repeat (first | with_reducible exact XR.out | with_reducible refine Ext.drew ?_ | with_reducible refine Ext.drewN ?_ _ | with_reducible refine Ext.alloc ?_ _ | with_reducible refine Ext.setCell ?_ (by first | omega | (simp; done) | (simp; omega)) _)) hx11)
      clear x_1 x_5 x_4 x_2 x_0 x_3 XR hx11 z11
      have hrm2 := Ext.size X11.out
      go_wp2_with (at_builtin; refine wpList_append_new _ rfl _ _ 50 rfl w.heap.size 4 i0 (.bool false) 1 1 Try.underlying50 hi0 hz0 hz1 hz2 rfl (by decide) _ k _ (by rfl) (HO.out.ext (by repeat (first | with_reducible exact Ext.refl _ | with_reducible refine Ext.drew ?_ | with_reducible refine Ext.drewN ?_ _ | with_reducible refine Ext.alloc ?_ _ | with_reducible refine Ext.setCell ?_ (by first | omega | (simp; done) | (simp; omega)) _))) #[.bool (fv)] 1 (by first | rfl | (simp [Act.eval]; done) | (simp [Act.eval, go_sem]; done)) rfl (by simp; try rfl) (by have := HK.out; omega) (by decide) (by first | omega | (simp; omega)) ?_; intro v2 w2 hown2 hb2)
      go_roundg (gk - 1)
      case measure => have := HK.out; omega
      case rel =>
        refine ⟨by have := HK.out; omega, num_eq (by have := HK.out; omega), Lib.hid ?_, Ext.below (by repeat (first | with_reducible exact X11.out | with_reducible refine Ext.drew ?_ | with_reducible refine Ext.drewN ?_ _ | with_reducible refine Ext.alloc ?_ _ | with_reducible refine Ext.setCell ?_ (by first | omega | (simp; done) | (simp; omega)) _)) hb2⟩
        have e : n - (gk - 1) = k + 1 := by have := HK.out; omega
        rw [e, hstep.out]
        exact OwnB.snoc hown2
/-- Active -/
def actV (l : List (Int × Int × Int × Int × Bool × Bool)) : List Bool := l.map (fun x => x.2.2.1 == 2)
set_option maxRecDepth 100000 in
set_option maxHeartbeats 1000000 in
theorem rosActive_any (A : Option Addr) (n c : Nat) (l : List (Int × Int × Int × Int × Bool × Bool)) (w : World) (h : Sl w 6 A n c (l.flatMap valC)) (hn : n < 1099511627776) :
    Calls Try.prog 44 #[.slice A n c] w (RetB (actV l) w) := by
  have hl := h.rlen valC_len (by decide)
  have s1 := h.small
  have HS := Lib.hid h
  have HL := Lib.hid hl
  obtain ⟨i0, hi0, hz0, hz1, hz2⟩ := info_parts bool_info
  clear h hl
  go_enter Try.func44, Try.ntmps44
  go_wp2
  go_loopg [3, 8] n (fun gh q i wx => gh ≤ n ∧ i = .int .i64 ((n - gh : Nat) : Int) ∧ Hid (OwnB wx w.heap.size q (n - gh) (actV (l.take (n - gh)))) ∧ Ext w wx)
  case atStart => exact ⟨Nat.le_refl _, by simp, Lib.hid (by rw [Nat.sub_self]; exact OwnB.nil _ _), Ext.refl _⟩
  case round =>
    obtain ⟨hg, hi, ho, hx⟩ := hrel
    obtain ⟨k, hk⟩ : ∃ k, k = n - gk := ⟨_, rfl⟩
    rw [← hk] at hi ho
    subst hi
    have XR := Lib.hid hx
    by_cases hz : gk = 0
    · have hkn : ¬ (k : Int) < n := by omega
      have hk2 : k = l.length := by have := HL.out; omega
      have HR := Lib.hid (RetB.mk (l := actV l) (by have h := ho.out; rw [List.take_of_length_le (by omega)] at h; exact h) hx (by simp [actV, hk2]))
      clear hx hk hg hz ho hk2
      go_wp2
      go_ret
      exact HR.out
    · have HO := ho
      have hrm := Ext.size hx
      clear ho
      have hkn : (k : Int) < n := by omega
      have hk1 : k < l.length := by have := HL.out; omega
      obtain ⟨b1, o1, rfl, hb1, hc1⟩ := HS.out.rec_ valC_len (show 0 < n from by omega)
      have x_0 := XR.out.has (hc1 k _ (List.getElem?_eq_getElem hk1) 0 _ rfl)
      have x_1 := XR.out.has (hc1 k _ (List.getElem?_eq_getElem hk1) 1 _ rfl)
      have x_2 := XR.out.has (hc1 k _ (List.getElem?_eq_getElem hk1) 2 _ rfl)
      have x_3 := XR.out.has (hc1 k _ (List.getElem?_eq_getElem hk1) 3 _ rfl)
      have x_4 := XR.out.has (hc1 k _ (List.getElem?_eq_getElem hk1) 4 _ rfl)
      have x_5 := XR.out.has (hc1 k _ (List.getElem?_eq_getElem hk1) 5 _ rfl)
      obtain ⟨x, hxx⟩ : ∃ x, x = l[k] := ⟨_, rfl⟩
      have hlk : l[k]? = some x := by rw [hxx]; exact List.getElem?_eq_getElem hk1
      rw [← hxx] at x_0 x_1 x_2 x_3 x_4 x_5
      obtain ⟨x0, x1, x2, x3, x4, x5⟩ := x
      simp only at x_0 x_1 x_2 x_3 x_4 x_5
      rw [Nat.add_zero] at x_0
      rw [← Nat.add_assoc] at x_1 x_2 x_3 x_4 x_5
      have HQ := Lib.hid hlk
      have HK := Lib.hid (And.intro hk (And.intro hg hz))
      have hstep : Hid (actV (l.take (k + 1)) = actV (l.take k) ++ [x2 == 2]) := Lib.hid (by rw [valC_take hlk]; simp [actV])
      clear hx hk hg hz hc1 hxx hk1 hlk
      go_wp2_with (at_builtin; refine wpList_append_new _ rfl _ _ 50 rfl w.heap.size 4 i0 (.bool false) 1 1 Try.underlying50 hi0 hz0 hz1 hz2 rfl (by decide) _ k _ (by rfl) (HO.out.ext (by repeat (first | with_reducible exact Ext.refl _ | with_reducible refine Ext.drew ?_ | with_reducible refine Ext.drewN ?_ _ | with_reducible refine Ext.alloc ?_ _ | with_reducible refine Ext.setCell ?_ (by first | omega | (simp; done) | (simp; omega)) _))) #[.bool (x2 == 2)] 1 (by first | rfl | (simp [Act.eval]; done) | (simp [Act.eval, go_sem]; done)) rfl (by simp; try rfl) (by have := HK.out; omega) (by decide) (by first | omega | (simp; omega)) ?_; intro v2 w2 hown2 hb2)
      go_roundg (gk - 1)
      case measure => have := HK.out; omega
      case rel =>
        refine ⟨by have := HK.out; omega, num_eq (by have := HK.out; omega), Lib.hid ?_, Ext.below (by repeat (first | with_reducible exact XR.out | with_reducible refine Ext.drew ?_ | with_reducible refine Ext.drewN ?_ _ | with_reducible refine Ext.alloc ?_ _ | with_reducible refine Ext.setCell ?_ (by first | omega | (simp; done) | (simp; omega)) _)) hb2⟩
        have e : n - (gk - 1) = k + 1 := by have := HK.out; omega
        rw [e, hstep.out]
        exact OwnB.snoc hown2
end Go.Proofs.Ytjdpgapmdmpjjaa
