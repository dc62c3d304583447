/- roster: who is active. Conditions stand in each lemma. -/
import Derived.Test.YtjdpgapmdmpjjaaRos8
set_option linter.unusedVariables false
set_option linter.unusedSimpArgs false
namespace Go.Proofs.Ytjdpgapmdmpjjaa
open Go.RowKit Go.ChangeShapes Go.WideShapes Go.Deep Go.Joins

def setSt (x : (Int × Int × Int × Int × Bool × Bool)) (s : Int) : (Int × Int × Int × Int × Bool × Bool) := (x.1, x.2.1, s, x.2.2.2)
def isFree (x : (Int × Int × Int × Int × Bool × Bool)) : Bool := decide (x.2.2.1 = 1 ∨ x.2.2.1 = 2)
def choOne (x : (Int × Int × Int × Int × Bool × Bool)) (a : Bool) : (Int × Int × Int × Int × Bool × Bool) := if a = true then setSt x 2 else if isFree x = true then setSt x 1 else x
def choBad (x : (Int × Int × Int × Int × Bool × Bool)) (a : Bool) : Bool := a && !isFree x
def choUp (l : List (Int × Int × Int × Int × Bool × Bool)) (act : List Bool) (k : Nat) : List (Int × Int × Int × Int × Bool × Bool) := ((l.zip act).take k).map (fun p => choOne p.1 p.2) ++ l.drop k
/-- the roster of which those are active -/
def choV (l : List (Int × Int × Int × Int × Bool × Bool)) (act : List Bool) : List (Int × Int × Int × Int × Bool × Bool) × Int :=
  if (chkV l).1 ≠ 0 then ([], (chkV l).1) else if act.length ≠ l.length then ([], 2) else if (l.zip act).any (fun p => choBad p.1 p.2) = true then ([], 11) else (choUp l act l.length, 0)
theorem zip_at {l : List (Int × Int × Int × Int × Bool × Bool)} {act : List Bool} {k : Nat} {x : (Int × Int × Int × Int × Bool × Bool)} {a : Bool} (h1 : l[k]? = some x) (h2 : act[k]? = some a) : (l.zip act)[k]? = some (x, a) := by
  rw [List.getElem?_zip_eq_some]
  exact ⟨h1, h2⟩
theorem choUp_succ {l : List (Int × Int × Int × Int × Bool × Bool)} {act : List Bool} {k : Nat} {x : (Int × Int × Int × Int × Bool × Bool)} {a : Bool} (h1 : l[k]? = some x) (h2 : act[k]? = some a) :
    ∃ pre post, choUp l act k = pre ++ x :: post ∧ choUp l act (k + 1) = pre ++ choOne x a :: post ∧ pre.length = k := by
  have hz := zip_at h1 h2
  obtain ⟨hk, hx⟩ := List.getElem?_eq_some_iff.1 h1
  obtain ⟨hk2, hz2⟩ := List.getElem?_eq_some_iff.1 hz
  refine ⟨((l.zip act).take k).map (fun p => choOne p.1 p.2), l.drop (k + 1), ?_, ?_, ?_⟩
  · unfold choUp
    rw [List.drop_eq_getElem_cons hk, hx]
  · unfold choUp
    rw [List.take_succ_eq_append_getElem hk2, hz2]
    simp
  · simp at hk2 ⊢
    omega
theorem val_set (pre post : List (Int × Int × Int × Int × Bool × Bool)) (x : (Int × Int × Int × Int × Bool × Bool)) (s : Int) : ((pre ++ x :: post).flatMap valC).set (pre.length * 6 + 2) (.int .i64 s) = (pre ++ setSt x s :: post).flatMap valC := by
  have hp : (pre.flatMap valC).length = pre.length * 6 := flat_len valC_len pre
  rw [List.flatMap_append, List.flatMap_append, ← hp, List.set_append_right _ _ (by omega), Nat.add_sub_cancel_left]
  simp [valC, setSt]
theorem Sl.setBlk {w : World} {A : Option Addr} {sz n c : Nat} {xs : List Value} {g i : Nat} {u : Value} (h : Sl w sz A n c xs) (hne : ∀ b o s, A = some ⟨b, o, s⟩ → b ≠ g) : Sl (w.setCell ⟨g, i, none⟩ u) sz A n c xs := by
  obtain ⟨h1, h2, h3, h4⟩ := h
  refine ⟨h1, h2, h3, fun hp => ?_⟩
  obtain ⟨b, o, e, hb, hc⟩ := h4 hp
  have hn := hne b o none e
  refine ⟨b, o, e, by simpa using hb, fun j v hj => ?_⟩
  have := hc j v hj
  have hB : But (fun k => k = g) w (w.setCell ⟨g, i, none⟩ u) := (But.refl (fun k => k = g) w).setG u
  exact hB.has (by show ¬ b = g; exact hn) this
theorem rosFree_n (A : Option Addr) (c : Nat) (l : List (Int × Int × Int × Int × Bool × Bool)) (w : World) (h : Sl w 6 A l.length c (l.flatMap valC)) (hn : l.length < 1099511627776) :
    Calls Try.prog 42 #[.slice A l.length c] w fun e w' => ∃ A' c', e = .returned (.slice A' l.length c') ∧ OwnB w' w.heap.size (.slice A' l.length c') l.length (freeV l) ∧ Ext w w' := by
  refine (rosFree_any A l.length c l w h hn).mono ?_
  rintro e w' ⟨A', c', h1, _, h3, h4⟩
  have e1 : (freeV l).length = l.length := by simp [freeV]
  rw [e1] at h1 h3
  exact ⟨A', c', h1, h3, h4⟩
theorem own_step {w : World} {base g n c k : Nat} {l : List (Int × Int × Int × Int × Bool × Bool)} {act : List Bool} {x : (Int × Int × Int × Int × Bool × Bool)} {a : Bool} {s : Int} (h : OwnVal w base (.slice (some ⟨g, 0, none⟩) n c) n (choUp l act k)) (h1 : l[k]? = some x) (h2 : act[k]? = some a) (he : choOne x a = setSt x s) :
    OwnVal (w.setCell ⟨g, k * 6 + 2, none⟩ (.int .i64 s)) base (.slice (some ⟨g, 0, none⟩) n c) n (choUp l act (k + 1)) := by
  obtain ⟨pre, post, e1, e2, e3⟩ := choUp_succ h1 h2
  have h3 := (World.ownsRow.stored h (k * 6 + 2) (.int .i64 s)).1
  rw [e1, ← e3, val_set] at h3
  unfold OwnVal
  rw [e2, he]
  rw [e3] at h3
  exact h3
theorem own_stay {w : World} {base n : Nat} {k : Nat} {v : Value} {l : List (Int × Int × Int × Int × Bool × Bool)} {act : List Bool} {x : (Int × Int × Int × Int × Bool × Bool)} {a : Bool} (h : OwnVal w base v n (choUp l act k)) (h1 : l[k]? = some x) (h2 : act[k]? = some a) (he : choOne x a = x) : OwnVal w base v n (choUp l act (k + 1)) := by
  obtain ⟨pre, post, e1, e2, e3⟩ := choUp_succ h1 h2
  rw [e1] at h
  rw [e2, he]
  exact h
theorem choUp_len {l : List (Int × Int × Int × Int × Bool × Bool)} {act : List Bool} (h : act.length = l.length) : (choUp l act l.length).length = l.length := by
  simp [choUp, h]
theorem cho_ok {l : List (Int × Int × Int × Int × Bool × Bool)} {act : List Bool} (hc : (chkV l).1 = 0) (hl : act.length = l.length) (hp : ∀ (j : Nat) (x : (Int × Int × Int × Int × Bool × Bool)) (a : Bool), l[j]? = some x → act[j]? = some a → choBad x a = false) : choV l act = (choUp l act l.length, 0) := by
  unfold choV
  rw [if_neg (by simp [hc]), if_neg (by simp [hl]), if_neg]
  rw [Bool.not_eq_true, List.any_eq_false]
  intro p hm
  obtain ⟨j, hj, e⟩ := List.mem_iff_getElem.1 hm
  have h3 : (l.zip act)[j]? = some (p.1, p.2) := by rw [List.getElem?_eq_getElem hj, e]
  rw [List.getElem?_zip_eq_some] at h3
  simp [hp j _ _ h3.1 h3.2]
theorem cho_bad {l : List (Int × Int × Int × Int × Bool × Bool)} {act : List Bool} {k : Nat} {x : (Int × Int × Int × Int × Bool × Bool)} {a : Bool} (hc : (chkV l).1 = 0) (hl : act.length = l.length) (h1 : l[k]? = some x) (h2 : act[k]? = some a) (hb : choBad x a = true) : choV l act = ([], 11) := by
  unfold choV
  rw [if_neg (by simp [hc]), if_neg (by simp [hl]), if_pos]
  rw [List.any_eq_true]
  exact ⟨(x, a), List.mem_of_getElem? (zip_at h1 h2), hb⟩
set_option maxRecDepth 100000 in
set_option maxHeartbeats 2000000 in
theorem rosChoose_chk (A A1 : Option Addr) (c n1 c1 : Nat) (l : List (Int × Int × Int × Int × Bool × Bool)) (act : List Bool) (f1 f2 : Int) (w : World) (h : Sl w 6 A l.length c (l.flatMap valC)) (ha : Sl w 1 A1 n1 c1 (act.map Value.bool)) (hw : ∀ x ∈ l, (Lit.int .i64 x.1).wf = true) (hf : (f1, f2) = chkV l) (hnil : A = none → c = 0) (hc : f1 ≠ 0) :
    Calls Try.prog 54 #[.slice A l.length c, .slice A1 n1 c1] w (RetV (choV l act).1 [.int .i64 (choV l act).2] w) := by
  have s1 := h.small
  have s2 := ha.small
  have hal : act.length = n1 := by have := ha.len; simpa using this
  have hv : choV l act = ([], f1) := by
    unfold choV
    rw [← hf]
    dsimp only
    rw [if_pos hc]
  rw [hv]
  dsimp only
  have e7 : (f1 != 0) = true := by simpa using hc
  have HS := Lib.hid h
  have HW := Lib.hid hw
  have HF := Lib.hid hf
  clear h ha hw hf hv
  go_enter Try.func54, Try.ntmps54
  go_wp2_with fail
  (with_reducible refine (rosCheck_ev A l.length c l f1 f2 _ (HS.out.ext (by repeat (first | with_reducible exact Ext.refl _ | with_reducible refine Ext.drew ?_ | with_reducible refine Ext.drewN ?_ _ | with_reducible refine Ext.alloc ?_ _ | with_reducible refine Ext.setCell ?_ (by first | omega | (simp; done) | (simp; omega)) _))) HW.out HF.out).mono ?_)
  rintro e w1 ⟨rfl, hx1⟩
  have z1 := hx1.size
  try simp at z1
  replace HS := Lib.hid (HS.out.ext (Ext.trans (by repeat (first | with_reducible exact Ext.refl _ | with_reducible refine Ext.drew ?_ | with_reducible refine Ext.drewN ?_ _ | with_reducible refine Ext.alloc ?_ _ | with_reducible refine Ext.setCell ?_ (by first | omega | (simp; done) | (simp; omega)) _)) hx1))
  have X1 : Hid (Ext w w1) := Lib.hid (Ext.trans (by repeat (first | with_reducible exact Ext.refl w | with_reducible refine Ext.drew ?_ | with_reducible refine Ext.drewN ?_ _ | with_reducible refine Ext.alloc ?_ _ | with_reducible refine Ext.setCell ?_ (by first | omega | (simp; done) | (simp; omega)) _)) hx1)
  clear hx1 z1
  go_wp2_with fail
  refine bodyPost_ret (v := .tuple #[.slice none 0 0, .int .i64 f1]) (by simp [results, Try.results54, go_sem, World.cell?_alloc_past]; try rfl) rfl (RetV.nil (xs := [.int .i64 f1]) ?_)
  exact (by repeat (first | with_reducible exact X1.out | with_reducible refine Ext.drew ?_ | with_reducible refine Ext.drewN ?_ _ | with_reducible refine Ext.alloc ?_ _ | with_reducible refine Ext.setCell ?_ (by first | omega | (simp; done) | (simp; omega)) _))
set_option maxRecDepth 100000 in
set_option maxHeartbeats 2000000 in
theorem rosChoose_len (A A1 : Option Addr) (c n1 c1 : Nat) (l : List (Int × Int × Int × Int × Bool × Bool)) (act : List Bool) (f1 f2 : Int) (w : World) (h : Sl w 6 A l.length c (l.flatMap valC)) (ha : Sl w 1 A1 n1 c1 (act.map Value.bool)) (hw : ∀ x ∈ l, (Lit.int .i64 x.1).wf = true) (hf : (f1, f2) = chkV l) (hnil : A = none → c = 0) (hc : f1 = 0) (hn1 : n1 ≠ l.length) :
    Calls Try.prog 54 #[.slice A l.length c, .slice A1 n1 c1] w (RetV (choV l act).1 [.int .i64 (choV l act).2] w) := by
  have s1 := h.small
  have s2 := ha.small
  have hal : act.length = n1 := by have := ha.len; simpa using this
  have hv : choV l act = ([], 2) := by
    unfold choV
    rw [← hf]
    dsimp only
    rw [if_neg (by simpa using hc), if_pos (by omega)]
  rw [hv]
  dsimp only
  subst hc
  have e7 : ((n1 : Int) != (l.length : Int)) = true := by simp; omega
  have HS := Lib.hid h
  have HW := Lib.hid hw
  have HF := Lib.hid hf
  clear h ha hw hf hv
  go_enter Try.func54, Try.ntmps54
  go_wp2_with fail
  (with_reducible refine (rosCheck_ev A l.length c l 0 f2 _ (HS.out.ext (by repeat (first | with_reducible exact Ext.refl _ | with_reducible refine Ext.drew ?_ | with_reducible refine Ext.drewN ?_ _ | with_reducible refine Ext.alloc ?_ _ | with_reducible refine Ext.setCell ?_ (by first | omega | (simp; done) | (simp; omega)) _))) HW.out HF.out).mono ?_)
  rintro e w1 ⟨rfl, hx1⟩
  have z1 := hx1.size
  try simp at z1
  replace HS := Lib.hid (HS.out.ext (Ext.trans (by repeat (first | with_reducible exact Ext.refl _ | with_reducible refine Ext.drew ?_ | with_reducible refine Ext.drewN ?_ _ | with_reducible refine Ext.alloc ?_ _ | with_reducible refine Ext.setCell ?_ (by first | omega | (simp; done) | (simp; omega)) _)) hx1))
  have X1 : Hid (Ext w w1) := Lib.hid (Ext.trans (by repeat (first | with_reducible exact Ext.refl w | with_reducible refine Ext.drew ?_ | with_reducible refine Ext.drewN ?_ _ | with_reducible refine Ext.alloc ?_ _ | with_reducible refine Ext.setCell ?_ (by first | omega | (simp; done) | (simp; omega)) _)) hx1)
  clear hx1 z1
  go_wp2_with fail
  refine bodyPost_ret (v := .tuple #[.slice none 0 0, .int .i64 2]) (by simp [results, Try.results54, go_sem, World.cell?_alloc_past]; try rfl) rfl (RetV.nil (xs := [.int .i64 2]) ?_)
  exact (by repeat (first | with_reducible exact X1.out | with_reducible refine Ext.drew ?_ | with_reducible refine Ext.drewN ?_ _ | with_reducible refine Ext.alloc ?_ _ | with_reducible refine Ext.setCell ?_ (by first | omega | (simp; done) | (simp; omega)) _))
set_option maxRecDepth 100000 in
set_option maxHeartbeats 2000000 in
theorem rosChoose_main (A A1 : Option Addr) (c n1 c1 : Nat) (l : List (Int × Int × Int × Int × Bool × Bool)) (act : List Bool) (f1 f2 : Int) (w : World) (h : Sl w 6 A l.length c (l.flatMap valC)) (ha : Sl w 1 A1 n1 c1 (act.map Value.bool)) (hw : ∀ x ∈ l, (Lit.int .i64 x.1).wf = true) (hf : (f1, f2) = chkV l) (hnil : A = none → c = 0) (hc : f1 = 0) (hn1 : n1 = l.length) (h32 : l.length ≤ 32) :
    Calls Try.prog 54 #[.slice A l.length c, .slice A1 n1 c1] w (RetV (choV l act).1 [.int .i64 (choV l act).2] w) := by
  have s1 := h.small
  have s2 := ha.small
  have hal : act.length = n1 := by have := ha.len; simpa using this
  subst hc
  subst hn1
  have e7 : ((l.length : Int) != (l.length : Int)) = false := by simp
  have HS := Lib.hid h
  have HA := Lib.hid ha
  have HW := Lib.hid hw
  have HF := Lib.hid hf
  have hch : (chkV l).1 = 0 := by rw [← hf]
  have HC := Lib.hid (And.intro hch hal)
  obtain ⟨⟨R, re⟩, hR⟩ : ∃ R, R = choV l act := ⟨_, rfl⟩
  rw [← hR]
  dsimp only
  have HR := Lib.hid hR
  clear h ha hw hf hch hal hR
  go_enter Try.func54, Try.ntmps54
  go_wp2_with fail
  (with_reducible refine (rosCheck_ev A l.length c l 0 f2 _ (HS.out.ext (by repeat (first | with_reducible exact Ext.refl _ | with_reducible refine Ext.drew ?_ | with_reducible refine Ext.drewN ?_ _ | with_reducible refine Ext.alloc ?_ _ | with_reducible refine Ext.setCell ?_ (by first | omega | (simp; done) | (simp; omega)) _))) HW.out HF.out).mono ?_)
  rintro e w1 ⟨rfl, hx1⟩
  have z1 := hx1.size
  try simp at z1
  replace HS := Lib.hid (HS.out.ext (Ext.trans (by repeat (first | with_reducible exact Ext.refl _ | with_reducible refine Ext.drew ?_ | with_reducible refine Ext.drewN ?_ _ | with_reducible refine Ext.alloc ?_ _ | with_reducible refine Ext.setCell ?_ (by first | omega | (simp; done) | (simp; omega)) _)) hx1))
  have X1 : Hid (Ext w w1) := Lib.hid (Ext.trans (by repeat (first | with_reducible exact Ext.refl w | with_reducible refine Ext.drew ?_ | with_reducible refine Ext.drewN ?_ _ | with_reducible refine Ext.alloc ?_ _ | with_reducible refine Ext.setCell ?_ (by first | omega | (simp; done) | (simp; omega)) _)) hx1)
  clear hx1 z1
  go_wp2_with fail
  have hrm1 := Ext.size X1.out
  (with_reducible refine (vClone_any A c l _ (HS.out.ext (by repeat (first | with_reducible exact Ext.refl _ | with_reducible refine Ext.drew ?_ | with_reducible refine Ext.drewN ?_ _ | with_reducible refine Ext.alloc ?_ _ | with_reducible refine Ext.setCell ?_ (by first | omega | (simp; done) | (simp; omega)) _))) (by omega) hnil).mono ?_)
  rintro e w2 ⟨A3, c3, rfl, hA3, hO3, hx2⟩
  have z2 := hx2.size
  try simp at z2
  replace HS := Lib.hid (HS.out.ext (Ext.trans (by repeat (first | with_reducible exact Ext.refl _ | with_reducible refine Ext.drew ?_ | with_reducible refine Ext.drewN ?_ _ | with_reducible refine Ext.alloc ?_ _ | with_reducible refine Ext.setCell ?_ (by first | omega | (simp; done) | (simp; omega)) _)) hx2))
  have X2 : Hid (Ext w w2) := Lib.hid (Ext.trans (by repeat (first | with_reducible exact X1.out | with_reducible refine Ext.drew ?_ | with_reducible refine Ext.drewN ?_ _ | with_reducible refine Ext.alloc ?_ _ | with_reducible refine Ext.setCell ?_ (by first | omega | (simp; done) | (simp; omega)) _)) hx2)
  have HO := Lib.hid (OwnVal.lower hO3 hrm1)
  clear X1 hx2 z2
  go_wp2_with fail
  have hin3 := Lib.hid (OwnVal.in_ HO.out)
  (with_reducible refine (rosFree_n A c l _ (HS.out.ext (by repeat (first | with_reducible exact Ext.refl _ | with_reducible refine Ext.drew ?_ | with_reducible refine Ext.drewN ?_ _ | with_reducible refine Ext.alloc ?_ _ | with_reducible refine Ext.setCell ?_ (by first | omega | (simp; done) | (simp; omega)) _))) (by omega)).mono ?_)
  rintro e w3 ⟨A4, c4, rfl, hO4, hx3⟩
  have z3 := hx3.size
  try simp at z3
  replace HS := Lib.hid (HS.out.ext (Ext.trans (by repeat (first | with_reducible exact Ext.refl _ | with_reducible refine Ext.drew ?_ | with_reducible refine Ext.drewN ?_ _ | with_reducible refine Ext.alloc ?_ _ | with_reducible refine Ext.setCell ?_ (by first | omega | (simp; done) | (simp; omega)) _)) hx3))
  replace HO := Lib.hid (HO.out.ext (Ext.trans (by repeat (first | with_reducible exact Ext.refl _ | with_reducible refine Ext.drew ?_ | with_reducible refine Ext.drewN ?_ _ | with_reducible refine Ext.alloc ?_ _ | with_reducible refine Ext.setCell ?_ (by first | omega | (simp; done) | (simp; omega)) _)) hx3))
  have X3 : Hid (Ext w w3) := Lib.hid (Ext.trans (by repeat (first | with_reducible exact X2.out | with_reducible refine Ext.drew ?_ | with_reducible refine Ext.drewN ?_ _ | with_reducible refine Ext.alloc ?_ _ | with_reducible refine Ext.setCell ?_ (by first | omega | (simp; done) | (simp; omega)) _)) hx3)
  have HB := Lib.hid hO4
  clear X2 hx3 z3 hO4
  have HD := Lib.hid (show ∀ b o s, A4 = some ⟨b, o, s⟩ → ∀ b' o' s', A3 = some ⟨b', o', s'⟩ → b ≠ b' from by
    intro b o s e b' o' s' e'
    subst e
    have h1 := World.ownsRow.lt HB.out b rfl
    have h2 := hin3.out b' o' s' e'
    omega)
  have HB2 := Lib.hid (OwnB.sl HB.out)
  go_wp2_with fail
  go_loopg [29] l.length (fun gh i wx => gh ≤ l.length ∧ i = .int .i64 ((l.length - gh : Nat) : Int) ∧ Hid (OwnVal wx w.heap.size (.slice A3 l.length c3) l.length (choUp l act (l.length - gh))) ∧ Hid (Sl wx 1 A4 l.length c4 ((freeV l).map Value.bool)) ∧ Hid (∀ (j : Nat) (x : (Int × Int × Int × Int × Bool × Bool)) (a : Bool), j < l.length - gh → l[j]? = some x → act[j]? = some a → choBad x a = false) ∧ Ext w wx)
  case atStart => exact ⟨Nat.le_refl _, by simp, Lib.hid (by rw [Nat.sub_self]; simpa [choUp] using HO.out), HB2, Lib.hid (by intro j x a hj; omega), X3.out⟩
  case round =>
    obtain ⟨hg, hi, ho, hb4, hp, hx⟩ := hrel
    obtain ⟨k, hk⟩ : ∃ k, k = l.length - gk := ⟨_, rfl⟩
    rw [← hk] at hi ho hp
    subst hi
    have XR := Lib.hid hx
    by_cases hz : gk = 0
    · have hkn : ¬ (k : Int) < l.length := by omega
      have hkl : k = l.length := by omega
      have hff : (R, re) = (choUp l act l.length, 0) := by
        rw [HR.out]
        refine cho_ok HC.out.1 HC.out.2 (fun j x a h1 h2 => hp.out j x a ?_ h1 h2)
        have := (List.getElem?_eq_some_iff.1 h1).1
        omega
      obtain ⟨rfl, rfl⟩ := Prod.mk.inj hff
      have HOO := Lib.hid (show OwnVal wr w.heap.size (.slice A3 l.length c3) l.length (choUp l act l.length) from by rw [← hkl]; exact hkl ▸ ho.out)
      clear hx hk hg hz hff
      go_wp2
      refine bodyPost_ret (v := .tuple #[.slice A3 l.length c3, .int .i64 0]) (by simp [results, Try.results54]; try rfl) rfl (RetV.mk (xs := [.int .i64 0]) HOO.out XR.out (choUp_len HC.out.2).symm)
    · have hkn : (k : Int) < l.length := by omega
      have hk1 : k < l.length := by omega
      have hk2 : k < act.length := by have := HC.out.2; omega
      obtain ⟨b1, o1, rfl, hb1, hc1⟩ := HA.out.at_ (show 0 < l.length from by omega)
      obtain ⟨b4, o4, rfl, hb2, hc2⟩ := hb4.out.at_ (show 0 < l.length from by omega)
      obtain ⟨x, hxx⟩ : ∃ x, x = l[k] := ⟨_, rfl⟩
      obtain ⟨a, haa⟩ : ∃ x, x = act[k] := ⟨_, rfl⟩
      have hlk : l[k]? = some x := by rw [hxx]; exact List.getElem?_eq_getElem hk1
      have hak : act[k]? = some a := by rw [haa]; exact List.getElem?_eq_getElem hk2
      have a_0 : wr.cell? ⟨b1, o1 + k, none⟩ = some (.bool a) := XR.out.has (hc1 k _ (by rw [List.getElem?_map, hak]; rfl))
      have f_0 : wr.cell? ⟨b4, o4 + k, none⟩ = some (.bool (isFree x)) := hc2 k _ (by rw [List.getElem?_map, freeV, List.getElem?_map, hlk]; rfl)
      obtain ⟨f, hff⟩ : ∃ f, f = isFree x := ⟨_, rfl⟩
      rw [← hff] at f_0
      rcases ho.out.2 with ⟨_, h0⟩ | ⟨g, cap, cur, h', hbg, _⟩
      · omega
      injection h' with h1 h2 h3
      subst h1; subst h3
      have hw := ho.out
      have hlen := hw.1
      have z_2 := (World.ownsRow.cellAt hw (k * 6 + 2) (by omega)).trans (List.getElem?_eq_getElem (by omega))
      have z_2f := World.ownsRow.frozenAt hw (k * 6 + 2)
      generalize ((choUp l act k).flatMap valC)[k * 6 + 2] = uz at z_2
      have hne4 : ¬ b4 = g := HD.out b4 o4 none rfl g 0 none rfl
      have HQ := Lib.hid (And.intro hlk hak)
      have HK := Lib.hid (And.intro hk (And.intro hg hz))
      have HFF := Lib.hid hff
      clear hx hk hg hz hc1 hc2 hxx haa hk1 hk2 hlk hak hff hw hlen
      cases a <;> cases f
      · skip
        go_wp2_with fail
        go_roundg (gk - 1)
        case measure => have := HK.out; omega
        case rel =>
          refine ⟨by have := HK.out; omega, num_eq (by have := HK.out; omega), Lib.hid ?_, Lib.hid (hb4.out), Lib.hid ?_, XR.out⟩
          · rw [show l.length - (gk - 1) = k + 1 from by have := HK.out; omega]
            exact own_stay ho.out HQ.out.1 HQ.out.2 (by simp [choOne, ← HFF.out])
          · intro j y q hj h1 h2
            rcases Nat.lt_or_ge j k with h | h
            · exact hp.out j y q h h1 h2
            · have e : j = k := by have := HK.out; omega
              subst e
              rw [HQ.out.1] at h1
              rw [HQ.out.2] at h2
              injection h1 with h1
              injection h2 with h2
              subst h1; subst h2
              simp [choBad, ← HFF.out]
      · skip
        go_wp2_with fail
        go_roundg (gk - 1)
        case measure => have := HK.out; omega
        case rel =>
          refine ⟨by have := HK.out; omega, num_eq (by have := HK.out; omega), Lib.hid ?_, Lib.hid (Sl.setBlk hb4.out (by intro b o s e; cases e; exact hne4)), Lib.hid ?_, (XR.out.setCell hbg _)⟩
          · rw [show l.length - (gk - 1) = k + 1 from by have := HK.out; omega]
            exact own_step ho.out HQ.out.1 HQ.out.2 (by simp [choOne, ← HFF.out])
          · intro j y q hj h1 h2
            rcases Nat.lt_or_ge j k with h | h
            · exact hp.out j y q h h1 h2
            · have e : j = k := by have := HK.out; omega
              subst e
              rw [HQ.out.1] at h1
              rw [HQ.out.2] at h2
              injection h1 with h1
              injection h2 with h2
              subst h1; subst h2
              simp [choBad, ← HFF.out]
      · skip
        have hff2 : (R, re) = ([], 11) := by
          rw [HR.out]
          exact cho_bad HC.out.1 HC.out.2 HQ.out.1 HQ.out.2 (by simp [choBad, ← HFF.out])
        obtain ⟨rfl, rfl⟩ := Prod.mk.inj hff2
        clear hff2
        go_wp2_with fail
        refine bodyPost_ret (v := .tuple #[.slice none 0 0, .int .i64 11]) (by simp [results, Try.results54]; try rfl) rfl (RetV.nil (xs := [.int .i64 11]) ?_)
        exact (by repeat (first | with_reducible exact XR.out | with_reducible refine Ext.drew ?_ | with_reducible refine Ext.drewN ?_ _ | with_reducible refine Ext.alloc ?_ _ | with_reducible refine Ext.setCell ?_ (by first | omega | (simp; done) | (simp; omega)) _))
      · skip
        go_wp2_with fail
        go_roundg (gk - 1)
        case measure => have := HK.out; omega
        case rel =>
          refine ⟨by have := HK.out; omega, num_eq (by have := HK.out; omega), Lib.hid ?_, Lib.hid (Sl.setBlk hb4.out (by intro b o s e; cases e; exact hne4)), Lib.hid ?_, (XR.out.setCell hbg _)⟩
          · rw [show l.length - (gk - 1) = k + 1 from by have := HK.out; omega]
            exact own_step ho.out HQ.out.1 HQ.out.2 (by simp [choOne, ← HFF.out])
          · intro j y q hj h1 h2
            rcases Nat.lt_or_ge j k with h | h
            · exact hp.out j y q h h1 h2
            · have e : j = k := by have := HK.out; omega
              subst e
              rw [HQ.out.1] at h1
              rw [HQ.out.2] at h2
              injection h1 with h1
              injection h2 with h2
              subst h1; subst h2
              simp [choBad, ← HFF.out]
theorem rosChoose_any (A A1 : Option Addr) (c n1 c1 : Nat) (l : List (Int × Int × Int × Int × Bool × Bool)) (act : List Bool) (w : World) (h : Sl w 6 A l.length c (l.flatMap valC)) (ha : Sl w 1 A1 n1 c1 (act.map Value.bool)) (hw : ∀ x ∈ l, (Lit.int .i64 x.1).wf = true) (hnil : A = none → c = 0) :
    Calls Try.prog 54 #[.slice A l.length c, .slice A1 n1 c1] w (RetV (choV l act).1 [.int .i64 (choV l act).2] w) := by
  obtain ⟨⟨f1, f2⟩, hf⟩ : ∃ F, F = chkV l := ⟨_, rfl⟩
  by_cases hc : f1 = 0
  · by_cases hn : n1 = l.length
    · exact rosChoose_main A A1 c n1 c1 l act f1 f2 w h ha hw hf hnil hc hn (chkV_zero (by rw [← hf]; exact hc)).2.1
    · exact rosChoose_len A A1 c n1 c1 l act f1 f2 w h ha hw hf hnil hc hn
  · exact rosChoose_chk A A1 c n1 c1 l act f1 f2 w h ha hw hf hnil hc
end Go.Proofs.Ytjdpgapmdmpjjaa
