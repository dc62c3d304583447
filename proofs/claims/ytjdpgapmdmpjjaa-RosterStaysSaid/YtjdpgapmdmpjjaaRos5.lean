/- roster: one more validator. Conditions stand in each lemma. -/
import Derived.Test.YtjdpgapmdmpjjaaRos4
set_option linter.unusedVariables false
set_option linter.unusedSimpArgs false
namespace Go.Proofs.Ytjdpgapmdmpjjaa
open Go.RowKit Go.ChangeShapes Go.WideShapes Go.Deep Go.Joins

theorem rosCheck_ev (A : Option Addr) (n c : Nat) (l : List (Int × Int × Int × Int × Bool × Bool)) (f1 f2 : Int) (w : World) (h : Sl w 6 A n c (l.flatMap valC)) (hw : ∀ x ∈ l, (Lit.int .i64 x.1).wf = true) (hf : (f1, f2) = chkV l) :
    Calls Try.prog 37 #[.slice A n c] w fun e w' => e = .returned (.tuple #[.int .i64 f1, .int .i64 f2]) ∧ Ext w w' := by
  have h := rosCheck_any A n c l w h hw
  rw [← hf] at h
  exact h
theorem rosFind_ev (A : Option Addr) (n c : Nat) (l : List (Int × Int × Int × Int × Bool × Bool)) (o : Int) (i : Int) (b : Bool) (w : World) (h : Sl w 6 A n c (l.flatMap valC)) (hf : (i, b) = fndV l o) :
    Calls Try.prog 39 #[.slice A n c, .int .i64 o] w fun e w' => e = .returned (.tuple #[.int .i64 i, .bool b]) ∧ Ext w w' := by
  have h := rosFind_any A n c l o w h
  rw [← hf] at h
  exact h
/-- a roster and an error handed back -/
def RetV (r : List (Int × Int × Int × Int × Bool × Bool)) (xs : List Value) (w : World) (e : Ending) (w' : World) : Prop := ∃ A c, e = .returned (.tuple (.slice A r.length c :: xs).toArray) ∧ (A = none → c = 0) ∧ OwnVal w' w.heap.size (.slice A r.length c) r.length r ∧ Ext w w'
theorem RetV.nil {xs : List Value} {w w' : World} (hx : Ext w w') : RetV [] xs w (.returned (.tuple (.slice none 0 0 :: xs).toArray)) w' := ⟨none, 0, rfl, fun _ => rfl, OwnVal.nil _ _, hx⟩
theorem RetV.mk {r : List (Int × Int × Int × Int × Bool × Bool)} {n : Nat} {xs : List Value} {v : Value} {w w' : World} (h : OwnVal w' w.heap.size v n r) (hx : Ext w w') (hn : n = r.length) : RetV r xs w (.returned (.tuple (v :: xs).toArray)) w' := by
  subst hn
  obtain ⟨A, c, rfl, h1, h2⟩ := own_parts2 h
  exact ⟨A, c, rfl, h1, h, hx⟩
theorem OwnVal.snoc {w : World} {base n : Nat} {v : Value} {l : List (Int × Int × Int × Int × Bool × Bool)} {x : (Int × Int × Int × Int × Bool × Bool)} (h : w.ownsRow base 96 6 v (n + 1) (l.flatMap valC ++ valC x)) : OwnVal w base v (n + 1) (l ++ [x]) := by
  unfold OwnVal
  rw [List.flatMap_append]
  simpa using h
theorem OwnVal.lower {w : World} {base b' n : Nat} {v : Value} {l : List (Int × Int × Int × Int × Bool × Bool)} (h : OwnVal w base v n l) (hb : b' ≤ base) : OwnVal w b' v n l := by
  obtain ⟨h1, h2⟩ := h
  refine ⟨h1, ?_⟩
  rcases h2 with h2 | ⟨g, cap, cur, e, hbg, hr⟩
  · exact Or.inl h2
  · exact Or.inr ⟨g, cap, cur, e, by omega, hr⟩
/-- one more -/
def creV (l : List (Int × Int × Int × Int × Bool × Bool)) (o m : Int) : List (Int × Int × Int × Int × Bool × Bool) × Int × Int :=
  if (chkV l).1 ≠ 0 then ([], 0, (chkV l).1) else if o < 0 ∨ o ≥ 64 then ([], 0, 3) else if m = 0 then ([], 0, 2) else if (fndV l o).2 = true then ([], 0, 8) else if 32 ≤ l.length then ([], 0, 7) else (l ++ [(o, m, 1, 0, false, false)], ((l.length : Nat) : Int), 0)
set_option maxRecDepth 100000 in
theorem rosCreate_chk (A : Option Addr) (n c : Nat) (l : List (Int × Int × Int × Int × Bool × Bool)) (o m f1 f2 fi : Int) (fb : Bool) (w : World) (h : Sl w 6 A n c (l.flatMap valC)) (hw : ∀ x ∈ l, (Lit.int .i64 x.1).wf = true) (hf : (f1, f2) = chkV l) (hi : (fi, fb) = fndV l o) (hc : f1 ≠ 0) :
    Calls Try.prog 33 #[.slice A n c, .int .i64 o, .int .u64 m] w (RetV (creV l o m).1 [.int .i64 (creV l o m).2.1, .int .i64 (creV l o m).2.2] w) := by
  have hl := h.rlen valC_len (by decide)
  have s1 := h.small
  have hv : creV l o m = ([], 0, f1) := by
    unfold creV
    rw [← hf, ← hi]
    dsimp only
    rw [if_pos hc]
  rw [hv]
  dsimp only
  have e7 : (f1 != 0) = true := by simpa using hc
  have HS := Lib.hid h
  have HW := Lib.hid hw
  have HF := Lib.hid hf
  have HI := Lib.hid hi
  clear h hw hf hi hv hl
  go_enter Try.func33, Try.ntmps33
  go_wp2_with fail
  (with_reducible refine (rosCheck_ev A n c l f1 f2 _ (HS.out.ext (by repeat (first | with_reducible exact Ext.refl _ | with_reducible refine Ext.drew ?_ | with_reducible refine Ext.drewN ?_ _ | with_reducible refine Ext.alloc ?_ _ | with_reducible refine Ext.setCell ?_ (by first | omega | (simp; done) | (simp; omega)) _))) HW.out HF.out).mono ?_)
  rintro e w1 ⟨rfl, hx1⟩
  have z1 := hx1.size
  try simp at z1
  replace HS := Lib.hid (HS.out.ext (Ext.trans (by repeat (first | with_reducible exact Ext.refl _ | with_reducible refine Ext.drew ?_ | with_reducible refine Ext.drewN ?_ _ | with_reducible refine Ext.alloc ?_ _ | with_reducible refine Ext.setCell ?_ (by first | omega | (simp; done) | (simp; omega)) _)) hx1))
  have X1 : Hid (Ext w w1) := Lib.hid (Ext.trans (by repeat (first | with_reducible exact Ext.refl w | with_reducible refine Ext.drew ?_ | with_reducible refine Ext.drewN ?_ _ | with_reducible refine Ext.alloc ?_ _ | with_reducible refine Ext.setCell ?_ (by first | omega | (simp; done) | (simp; omega)) _)) hx1)
  clear hx1 z1
  go_wp2_with fail
  refine bodyPost_ret (v := .tuple #[.slice none 0 0, .int .i64 0, .int .i64 f1]) (by simp [results, Try.results33, go_sem, World.cell?_alloc_past]; try rfl) rfl (RetV.nil (xs := [.int .i64 0, .int .i64 f1]) ?_)
  exact (by repeat (first | with_reducible exact X1.out | with_reducible refine Ext.drew ?_ | with_reducible refine Ext.drewN ?_ _ | with_reducible refine Ext.alloc ?_ _ | with_reducible refine Ext.setCell ?_ (by first | omega | (simp; done) | (simp; omega)) _))
set_option maxRecDepth 100000 in
theorem rosCreate_neg (A : Option Addr) (n c : Nat) (l : List (Int × Int × Int × Int × Bool × Bool)) (o m f1 f2 fi : Int) (fb : Bool) (w : World) (h : Sl w 6 A n c (l.flatMap valC)) (hw : ∀ x ∈ l, (Lit.int .i64 x.1).wf = true) (hf : (f1, f2) = chkV l) (hi : (fi, fb) = fndV l o) (hc : f1 = 0) (ho : o < 0) :
    Calls Try.prog 33 #[.slice A n c, .int .i64 o, .int .u64 m] w (RetV (creV l o m).1 [.int .i64 (creV l o m).2.1, .int .i64 (creV l o m).2.2] w) := by
  have hl := h.rlen valC_len (by decide)
  have s1 := h.small
  have hv : creV l o m = ([], 0, 3) := by
    unfold creV
    rw [← hf, ← hi]
    dsimp only
    rw [if_neg (by simpa using hc), if_pos (Or.inl ho)]
  rw [hv]
  dsimp only
  subst hc
  have HS := Lib.hid h
  have HW := Lib.hid hw
  have HF := Lib.hid hf
  have HI := Lib.hid hi
  clear h hw hf hi hv hl
  go_enter Try.func33, Try.ntmps33
  go_wp2_with fail
  (with_reducible refine (rosCheck_ev A n c l 0 f2 _ (HS.out.ext (by repeat (first | with_reducible exact Ext.refl _ | with_reducible refine Ext.drew ?_ | with_reducible refine Ext.drewN ?_ _ | with_reducible refine Ext.alloc ?_ _ | with_reducible refine Ext.setCell ?_ (by first | omega | (simp; done) | (simp; omega)) _))) HW.out HF.out).mono ?_)
  rintro e w1 ⟨rfl, hx1⟩
  have z1 := hx1.size
  try simp at z1
  replace HS := Lib.hid (HS.out.ext (Ext.trans (by repeat (first | with_reducible exact Ext.refl _ | with_reducible refine Ext.drew ?_ | with_reducible refine Ext.drewN ?_ _ | with_reducible refine Ext.alloc ?_ _ | with_reducible refine Ext.setCell ?_ (by first | omega | (simp; done) | (simp; omega)) _)) hx1))
  have X1 : Hid (Ext w w1) := Lib.hid (Ext.trans (by repeat (first | with_reducible exact Ext.refl w | with_reducible refine Ext.drew ?_ | with_reducible refine Ext.drewN ?_ _ | with_reducible refine Ext.alloc ?_ _ | with_reducible refine Ext.setCell ?_ (by first | omega | (simp; done) | (simp; omega)) _)) hx1)
  clear hx1 z1
  go_wp2_with fail
  (with_reducible refine (rosFind_ev A n c l o fi fb _ (HS.out.ext (by repeat (first | with_reducible exact Ext.refl _ | with_reducible refine Ext.drew ?_ | with_reducible refine Ext.drewN ?_ _ | with_reducible refine Ext.alloc ?_ _ | with_reducible refine Ext.setCell ?_ (by first | omega | (simp; done) | (simp; omega)) _))) HI.out).mono ?_)
  rintro e w2 ⟨rfl, hx2⟩
  have z2 := hx2.size
  try simp at z2
  replace HS := Lib.hid (HS.out.ext (Ext.trans (by repeat (first | with_reducible exact Ext.refl _ | with_reducible refine Ext.drew ?_ | with_reducible refine Ext.drewN ?_ _ | with_reducible refine Ext.alloc ?_ _ | with_reducible refine Ext.setCell ?_ (by first | omega | (simp; done) | (simp; omega)) _)) hx2))
  have X2 : Hid (Ext w w2) := Lib.hid (Ext.trans (by repeat (first | with_reducible exact X1.out | with_reducible refine Ext.drew ?_ | with_reducible refine Ext.drewN ?_ _ | with_reducible refine Ext.alloc ?_ _ | with_reducible refine Ext.setCell ?_ (by first | omega | (simp; done) | (simp; omega)) _)) hx2)
  clear X1 hx2 z2
  go_wp2_with fail
  refine bodyPost_ret (v := .tuple #[.slice none 0 0, .int .i64 0, .int .i64 3]) (by simp [results, Try.results33, go_sem, World.cell?_alloc_past]; try rfl) rfl (RetV.nil (xs := [.int .i64 0, .int .i64 3]) ?_)
  exact (by repeat (first | with_reducible exact X2.out | with_reducible refine Ext.drew ?_ | with_reducible refine Ext.drewN ?_ _ | with_reducible refine Ext.alloc ?_ _ | with_reducible refine Ext.setCell ?_ (by first | omega | (simp; done) | (simp; omega)) _))
set_option maxRecDepth 100000 in
theorem rosCreate_big (A : Option Addr) (n c : Nat) (l : List (Int × Int × Int × Int × Bool × Bool)) (o m f1 f2 fi : Int) (fb : Bool) (w : World) (h : Sl w 6 A n c (l.flatMap valC)) (hw : ∀ x ∈ l, (Lit.int .i64 x.1).wf = true) (hf : (f1, f2) = chkV l) (hi : (fi, fb) = fndV l o) (hc : f1 = 0) (ho : o ≥ 64) :
    Calls Try.prog 33 #[.slice A n c, .int .i64 o, .int .u64 m] w (RetV (creV l o m).1 [.int .i64 (creV l o m).2.1, .int .i64 (creV l o m).2.2] w) := by
  have hl := h.rlen valC_len (by decide)
  have s1 := h.small
  have hv : creV l o m = ([], 0, 3) := by
    unfold creV
    rw [← hf, ← hi]
    dsimp only
    rw [if_neg (by simpa using hc), if_pos (Or.inr ho)]
  rw [hv]
  dsimp only
  subst hc
  have ho2 : ¬ o < 0 := by omega
  have HS := Lib.hid h
  have HW := Lib.hid hw
  have HF := Lib.hid hf
  have HI := Lib.hid hi
  clear h hw hf hi hv hl
  go_enter Try.func33, Try.ntmps33
  go_wp2_with fail
  (with_reducible refine (rosCheck_ev A n c l 0 f2 _ (HS.out.ext (by repeat (first | with_reducible exact Ext.refl _ | with_reducible refine Ext.drew ?_ | with_reducible refine Ext.drewN ?_ _ | with_reducible refine Ext.alloc ?_ _ | with_reducible refine Ext.setCell ?_ (by first | omega | (simp; done) | (simp; omega)) _))) HW.out HF.out).mono ?_)
  rintro e w1 ⟨rfl, hx1⟩
  have z1 := hx1.size
  try simp at z1
  replace HS := Lib.hid (HS.out.ext (Ext.trans (by repeat (first | with_reducible exact Ext.refl _ | with_reducible refine Ext.drew ?_ | with_reducible refine Ext.drewN ?_ _ | with_reducible refine Ext.alloc ?_ _ | with_reducible refine Ext.setCell ?_ (by first | omega | (simp; done) | (simp; omega)) _)) hx1))
  have X1 : Hid (Ext w w1) := Lib.hid (Ext.trans (by repeat (first | with_reducible exact Ext.refl w | with_reducible refine Ext.drew ?_ | with_reducible refine Ext.drewN ?_ _ | with_reducible refine Ext.alloc ?_ _ | with_reducible refine Ext.setCell ?_ (by first | omega | (simp; done) | (simp; omega)) _)) hx1)
  clear hx1 z1
  go_wp2_with fail
  (with_reducible refine (rosFind_ev A n c l o fi fb _ (HS.out.ext (by repeat (first | with_reducible exact Ext.refl _ | with_reducible refine Ext.drew ?_ | with_reducible refine Ext.drewN ?_ _ | with_reducible refine Ext.alloc ?_ _ | with_reducible refine Ext.setCell ?_ (by first | omega | (simp; done) | (simp; omega)) _))) HI.out).mono ?_)
  rintro e w2 ⟨rfl, hx2⟩
  have z2 := hx2.size
  try simp at z2
  replace HS := Lib.hid (HS.out.ext (Ext.trans (by repeat (first | with_reducible exact Ext.refl _ | with_reducible refine Ext.drew ?_ | with_reducible refine Ext.drewN ?_ _ | with_reducible refine Ext.alloc ?_ _ | with_reducible refine Ext.setCell ?_ (by first | omega | (simp; done) | (simp; omega)) _)) hx2))
  have X2 : Hid (Ext w w2) := Lib.hid (Ext.trans (by repeat (first | with_reducible exact X1.out | with_reducible refine Ext.drew ?_ | with_reducible refine Ext.drewN ?_ _ | with_reducible refine Ext.alloc ?_ _ | with_reducible refine Ext.setCell ?_ (by first | omega | (simp; done) | (simp; omega)) _)) hx2)
  clear X1 hx2 z2
  go_wp2_with fail
  refine bodyPost_ret (v := .tuple #[.slice none 0 0, .int .i64 0, .int .i64 3]) (by simp [results, Try.results33, go_sem, World.cell?_alloc_past]; try rfl) rfl (RetV.nil (xs := [.int .i64 0, .int .i64 3]) ?_)
  exact (by repeat (first | with_reducible exact X2.out | with_reducible refine Ext.drew ?_ | with_reducible refine Ext.drewN ?_ _ | with_reducible refine Ext.alloc ?_ _ | with_reducible refine Ext.setCell ?_ (by first | omega | (simp; done) | (simp; omega)) _))
set_option maxRecDepth 100000 in
theorem rosCreate_arg (A : Option Addr) (n c : Nat) (l : List (Int × Int × Int × Int × Bool × Bool)) (o m f1 f2 fi : Int) (fb : Bool) (w : World) (h : Sl w 6 A n c (l.flatMap valC)) (hw : ∀ x ∈ l, (Lit.int .i64 x.1).wf = true) (hf : (f1, f2) = chkV l) (hi : (fi, fb) = fndV l o) (hc : f1 = 0) (ho : ¬ o < 0) (ho2 : ¬ o ≥ 64) (hm : m = 0) :
    Calls Try.prog 33 #[.slice A n c, .int .i64 o, .int .u64 m] w (RetV (creV l o m).1 [.int .i64 (creV l o m).2.1, .int .i64 (creV l o m).2.2] w) := by
  have hl := h.rlen valC_len (by decide)
  have s1 := h.small
  have hv : creV l o m = ([], 0, 2) := by
    unfold creV
    rw [← hf, ← hi]
    dsimp only
    rw [if_neg (by simpa using hc), if_neg (by omega), if_pos hm]
  rw [hv]
  dsimp only
  subst hc
  subst hm
  have HS := Lib.hid h
  have HW := Lib.hid hw
  have HF := Lib.hid hf
  have HI := Lib.hid hi
  clear h hw hf hi hv hl
  go_enter Try.func33, Try.ntmps33
  go_wp2_with fail
  (with_reducible refine (rosCheck_ev A n c l 0 f2 _ (HS.out.ext (by repeat (first | with_reducible exact Ext.refl _ | with_reducible refine Ext.drew ?_ | with_reducible refine Ext.drewN ?_ _ | with_reducible refine Ext.alloc ?_ _ | with_reducible refine Ext.setCell ?_ (by first | omega | (simp; done) | (simp; omega)) _))) HW.out HF.out).mono ?_)
  rintro e w1 ⟨rfl, hx1⟩
  have z1 := hx1.size
  try simp at z1
  replace HS := Lib.hid (HS.out.ext (Ext.trans (by repeat (first | with_reducible exact Ext.refl _ | with_reducible refine Ext.drew ?_ | with_reducible refine Ext.drewN ?_ _ | with_reducible refine Ext.alloc ?_ _ | with_reducible refine Ext.setCell ?_ (by first | omega | (simp; done) | (simp; omega)) _)) hx1))
  have X1 : Hid (Ext w w1) := Lib.hid (Ext.trans (by repeat (first | with_reducible exact Ext.refl w | with_reducible refine Ext.drew ?_ | with_reducible refine Ext.drewN ?_ _ | with_reducible refine Ext.alloc ?_ _ | with_reducible refine Ext.setCell ?_ (by first | omega | (simp; done) | (simp; omega)) _)) hx1)
  clear hx1 z1
  go_wp2_with fail
  (with_reducible refine (rosFind_ev A n c l o fi fb _ (HS.out.ext (by repeat (first | with_reducible exact Ext.refl _ | with_reducible refine Ext.drew ?_ | with_reducible refine Ext.drewN ?_ _ | with_reducible refine Ext.alloc ?_ _ | with_reducible refine Ext.setCell ?_ (by first | omega | (simp; done) | (simp; omega)) _))) HI.out).mono ?_)
  rintro e w2 ⟨rfl, hx2⟩
  have z2 := hx2.size
  try simp at z2
  replace HS := Lib.hid (HS.out.ext (Ext.trans (by repeat (first | with_reducible exact Ext.refl _ | with_reducible refine Ext.drew ?_ | with_reducible refine Ext.drewN ?_ _ | with_reducible refine Ext.alloc ?_ _ | with_reducible refine Ext.setCell ?_ (by first | omega | (simp; done) | (simp; omega)) _)) hx2))
  have X2 : Hid (Ext w w2) := Lib.hid (Ext.trans (by repeat (first | with_reducible exact X1.out | with_reducible refine Ext.drew ?_ | with_reducible refine Ext.drewN ?_ _ | with_reducible refine Ext.alloc ?_ _ | with_reducible refine Ext.setCell ?_ (by first | omega | (simp; done) | (simp; omega)) _)) hx2)
  clear X1 hx2 z2
  go_wp2_with fail
  refine bodyPost_ret (v := .tuple #[.slice none 0 0, .int .i64 0, .int .i64 2]) (by simp [results, Try.results33, go_sem, World.cell?_alloc_past]; try rfl) rfl (RetV.nil (xs := [.int .i64 0, .int .i64 2]) ?_)
  exact (by repeat (first | with_reducible exact X2.out | with_reducible refine Ext.drew ?_ | with_reducible refine Ext.drewN ?_ _ | with_reducible refine Ext.alloc ?_ _ | with_reducible refine Ext.setCell ?_ (by first | omega | (simp; done) | (simp; omega)) _))
set_option maxRecDepth 100000 in
theorem rosCreate_dbl (A : Option Addr) (n c : Nat) (l : List (Int × Int × Int × Int × Bool × Bool)) (o m f1 f2 fi : Int) (fb : Bool) (w : World) (h : Sl w 6 A n c (l.flatMap valC)) (hw : ∀ x ∈ l, (Lit.int .i64 x.1).wf = true) (hf : (f1, f2) = chkV l) (hi : (fi, fb) = fndV l o) (hc : f1 = 0) (ho : ¬ o < 0) (ho2 : ¬ o ≥ 64) (hm : m ≠ 0) (hb : fb = true) :
    Calls Try.prog 33 #[.slice A n c, .int .i64 o, .int .u64 m] w (RetV (creV l o m).1 [.int .i64 (creV l o m).2.1, .int .i64 (creV l o m).2.2] w) := by
  have hl := h.rlen valC_len (by decide)
  have s1 := h.small
  have hv : creV l o m = ([], 0, 8) := by
    unfold creV
    rw [← hf, ← hi]
    dsimp only
    rw [if_neg (by simpa using hc), if_neg (by omega), if_neg hm, if_pos hb]
  rw [hv]
  dsimp only
  subst hc
  have e6 : (m == 0) = false := by simpa using hm
  subst hb
  have HS := Lib.hid h
  have HW := Lib.hid hw
  have HF := Lib.hid hf
  have HI := Lib.hid hi
  clear h hw hf hi hv hl
  go_enter Try.func33, Try.ntmps33
  go_wp2_with fail
  (with_reducible refine (rosCheck_ev A n c l 0 f2 _ (HS.out.ext (by repeat (first | with_reducible exact Ext.refl _ | with_reducible refine Ext.drew ?_ | with_reducible refine Ext.drewN ?_ _ | with_reducible refine Ext.alloc ?_ _ | with_reducible refine Ext.setCell ?_ (by first | omega | (simp; done) | (simp; omega)) _))) HW.out HF.out).mono ?_)
  rintro e w1 ⟨rfl, hx1⟩
  have z1 := hx1.size
  try simp at z1
  replace HS := Lib.hid (HS.out.ext (Ext.trans (by repeat (first | with_reducible exact Ext.refl _ | with_reducible refine Ext.drew ?_ | with_reducible refine Ext.drewN ?_ _ | with_reducible refine Ext.alloc ?_ _ | with_reducible refine Ext.setCell ?_ (by first | omega | (simp; done) | (simp; omega)) _)) hx1))
  have X1 : Hid (Ext w w1) := Lib.hid (Ext.trans (by repeat (first | with_reducible exact Ext.refl w | with_reducible refine Ext.drew ?_ | with_reducible refine Ext.drewN ?_ _ | with_reducible refine Ext.alloc ?_ _ | with_reducible refine Ext.setCell ?_ (by first | omega | (simp; done) | (simp; omega)) _)) hx1)
  clear hx1 z1
  go_wp2_with fail
  (with_reducible refine (rosFind_ev A n c l o fi true _ (HS.out.ext (by repeat (first | with_reducible exact Ext.refl _ | with_reducible refine Ext.drew ?_ | with_reducible refine Ext.drewN ?_ _ | with_reducible refine Ext.alloc ?_ _ | with_reducible refine Ext.setCell ?_ (by first | omega | (simp; done) | (simp; omega)) _))) HI.out).mono ?_)
  rintro e w2 ⟨rfl, hx2⟩
  have z2 := hx2.size
  try simp at z2
  replace HS := Lib.hid (HS.out.ext (Ext.trans (by repeat (first | with_reducible exact Ext.refl _ | with_reducible refine Ext.drew ?_ | with_reducible refine Ext.drewN ?_ _ | with_reducible refine Ext.alloc ?_ _ | with_reducible refine Ext.setCell ?_ (by first | omega | (simp; done) | (simp; omega)) _)) hx2))
  have X2 : Hid (Ext w w2) := Lib.hid (Ext.trans (by repeat (first | with_reducible exact X1.out | with_reducible refine Ext.drew ?_ | with_reducible refine Ext.drewN ?_ _ | with_reducible refine Ext.alloc ?_ _ | with_reducible refine Ext.setCell ?_ (by first | omega | (simp; done) | (simp; omega)) _)) hx2)
  clear X1 hx2 z2
  go_wp2_with fail
  refine bodyPost_ret (v := .tuple #[.slice none 0 0, .int .i64 0, .int .i64 8]) (by simp [results, Try.results33, go_sem, World.cell?_alloc_past]; try rfl) rfl (RetV.nil (xs := [.int .i64 0, .int .i64 8]) ?_)
  exact (by repeat (first | with_reducible exact X2.out | with_reducible refine Ext.drew ?_ | with_reducible refine Ext.drewN ?_ _ | with_reducible refine Ext.alloc ?_ _ | with_reducible refine Ext.setCell ?_ (by first | omega | (simp; done) | (simp; omega)) _))
set_option maxRecDepth 100000 in
theorem rosCreate_full (A : Option Addr) (n c : Nat) (l : List (Int × Int × Int × Int × Bool × Bool)) (o m f1 f2 fi : Int) (fb : Bool) (w : World) (h : Sl w 6 A n c (l.flatMap valC)) (hw : ∀ x ∈ l, (Lit.int .i64 x.1).wf = true) (hf : (f1, f2) = chkV l) (hi : (fi, fb) = fndV l o) (hc : f1 = 0) (ho : ¬ o < 0) (ho2 : ¬ o ≥ 64) (hm : m ≠ 0) (hb : fb = false) (hg : 32 ≤ l.length) :
    Calls Try.prog 33 #[.slice A n c, .int .i64 o, .int .u64 m] w (RetV (creV l o m).1 [.int .i64 (creV l o m).2.1, .int .i64 (creV l o m).2.2] w) := by
  have hl := h.rlen valC_len (by decide)
  have s1 := h.small
  have hv : creV l o m = ([], 0, 7) := by
    unfold creV
    rw [← hf, ← hi]
    dsimp only
    rw [if_neg (by simpa using hc), if_neg (by omega), if_neg hm, if_neg (by simp [hb]), if_pos hg]
  rw [hv]
  dsimp only
  subst hc
  have e6 : (m == 0) = false := by simpa using hm
  subst hb
  have hg2 : (n : Int) ≥ 32 := by omega
  have HS := Lib.hid h
  have HW := Lib.hid hw
  have HF := Lib.hid hf
  have HI := Lib.hid hi
  clear h hw hf hi hv hl
  go_enter Try.func33, Try.ntmps33
  go_wp2_with fail
  (with_reducible refine (rosCheck_ev A n c l 0 f2 _ (HS.out.ext (by repeat (first | with_reducible exact Ext.refl _ | with_reducible refine Ext.drew ?_ | with_reducible refine Ext.drewN ?_ _ | with_reducible refine Ext.alloc ?_ _ | with_reducible refine Ext.setCell ?_ (by first | omega | (simp; done) | (simp; omega)) _))) HW.out HF.out).mono ?_)
  rintro e w1 ⟨rfl, hx1⟩
  have z1 := hx1.size
  try simp at z1
  replace HS := Lib.hid (HS.out.ext (Ext.trans (by repeat (first | with_reducible exact Ext.refl _ | with_reducible refine Ext.drew ?_ | with_reducible refine Ext.drewN ?_ _ | with_reducible refine Ext.alloc ?_ _ | with_reducible refine Ext.setCell ?_ (by first | omega | (simp; done) | (simp; omega)) _)) hx1))
  have X1 : Hid (Ext w w1) := Lib.hid (Ext.trans (by repeat (first | with_reducible exact Ext.refl w | with_reducible refine Ext.drew ?_ | with_reducible refine Ext.drewN ?_ _ | with_reducible refine Ext.alloc ?_ _ | with_reducible refine Ext.setCell ?_ (by first | omega | (simp; done) | (simp; omega)) _)) hx1)
  clear hx1 z1
  go_wp2_with fail
  (with_reducible refine (rosFind_ev A n c l o fi false _ (HS.out.ext (by repeat (first | with_reducible exact Ext.refl _ | with_reducible refine Ext.drew ?_ | with_reducible refine Ext.drewN ?_ _ | with_reducible refine Ext.alloc ?_ _ | with_reducible refine Ext.setCell ?_ (by first | omega | (simp; done) | (simp; omega)) _))) HI.out).mono ?_)
  rintro e w2 ⟨rfl, hx2⟩
  have z2 := hx2.size
  try simp at z2
  replace HS := Lib.hid (HS.out.ext (Ext.trans (by repeat (first | with_reducible exact Ext.refl _ | with_reducible refine Ext.drew ?_ | with_reducible refine Ext.drewN ?_ _ | with_reducible refine Ext.alloc ?_ _ | with_reducible refine Ext.setCell ?_ (by first | omega | (simp; done) | (simp; omega)) _)) hx2))
  have X2 : Hid (Ext w w2) := Lib.hid (Ext.trans (by repeat (first | with_reducible exact X1.out | with_reducible refine Ext.drew ?_ | with_reducible refine Ext.drewN ?_ _ | with_reducible refine Ext.alloc ?_ _ | with_reducible refine Ext.setCell ?_ (by first | omega | (simp; done) | (simp; omega)) _)) hx2)
  clear X1 hx2 z2
  go_wp2_with fail
  refine bodyPost_ret (v := .tuple #[.slice none 0 0, .int .i64 0, .int .i64 7]) (by simp [results, Try.results33, go_sem, World.cell?_alloc_past]; try rfl) rfl (RetV.nil (xs := [.int .i64 0, .int .i64 7]) ?_)
  exact (by repeat (first | with_reducible exact X2.out | with_reducible refine Ext.drew ?_ | with_reducible refine Ext.drewN ?_ _ | with_reducible refine Ext.alloc ?_ _ | with_reducible refine Ext.setCell ?_ (by first | omega | (simp; done) | (simp; omega)) _))
set_option maxRecDepth 100000 in
theorem rosCreate_ok (A : Option Addr) (n c : Nat) (l : List (Int × Int × Int × Int × Bool × Bool)) (o m f1 f2 fi : Int) (fb : Bool) (w : World) (h : Sl w 6 A n c (l.flatMap valC)) (hw : ∀ x ∈ l, (Lit.int .i64 x.1).wf = true) (hf : (f1, f2) = chkV l) (hi : (fi, fb) = fndV l o) (hnil : A = none → c = 0) (hc : f1 = 0) (ho : ¬ o < 0) (ho2 : ¬ o ≥ 64) (hm : m ≠ 0) (hb : fb = false) (hg : ¬ 32 ≤ l.length) :
    Calls Try.prog 33 #[.slice A n c, .int .i64 o, .int .u64 m] w (RetV (creV l o m).1 [.int .i64 (creV l o m).2.1, .int .i64 (creV l o m).2.2] w) := by
  have hl := h.rlen valC_len (by decide)
  have s1 := h.small
  have hv : creV l o m = (l ++ [(o, m, 1, 0, false, false)], ((n : Nat) : Int), 0) := by
    unfold creV
    rw [← hf, ← hi]
    dsimp only
    rw [if_neg (by simpa using hc), if_neg (by omega), if_neg hm, if_neg (by simp [hb]), if_neg hg, hl]
  rw [hv]
  dsimp only
  subst hc
  subst hb
  have e6 : (m == 0) = false := by simpa using hm
  have hg2 : ¬ (n : Int) ≥ 32 := by omega
  subst hl
  obtain ⟨i0, hi0, hz0, hz1, hz2⟩ := info_parts val_info
  have HS := Lib.hid h
  have HW := Lib.hid hw
  have HF := Lib.hid hf
  have HI := Lib.hid hi
  clear h hw hf hi hv
  go_enter Try.func33, Try.ntmps33
  go_wp2_with fail
  (with_reducible refine (rosCheck_ev A l.length c l 0 f2 _ (HS.out.ext (by repeat (first | with_reducible exact Ext.refl _ | with_reducible refine Ext.drew ?_ | with_reducible refine Ext.drewN ?_ _ | with_reducible refine Ext.alloc ?_ _ | with_reducible refine Ext.setCell ?_ (by first | omega | (simp; done) | (simp; omega)) _))) HW.out HF.out).mono ?_)
  rintro e w1 ⟨rfl, hx1⟩
  have z1 := hx1.size
  try simp at z1
  replace HS := Lib.hid (HS.out.ext (Ext.trans (by repeat (first | with_reducible exact Ext.refl _ | with_reducible refine Ext.drew ?_ | with_reducible refine Ext.drewN ?_ _ | with_reducible refine Ext.alloc ?_ _ | with_reducible refine Ext.setCell ?_ (by first | omega | (simp; done) | (simp; omega)) _)) hx1))
  have X1 : Hid (Ext w w1) := Lib.hid (Ext.trans (by repeat (first | with_reducible exact Ext.refl w | with_reducible refine Ext.drew ?_ | with_reducible refine Ext.drewN ?_ _ | with_reducible refine Ext.alloc ?_ _ | with_reducible refine Ext.setCell ?_ (by first | omega | (simp; done) | (simp; omega)) _)) hx1)
  clear hx1 z1
  go_wp2_with fail
  (with_reducible refine (rosFind_ev A l.length c l o fi false _ (HS.out.ext (by repeat (first | with_reducible exact Ext.refl _ | with_reducible refine Ext.drew ?_ | with_reducible refine Ext.drewN ?_ _ | with_reducible refine Ext.alloc ?_ _ | with_reducible refine Ext.setCell ?_ (by first | omega | (simp; done) | (simp; omega)) _))) HI.out).mono ?_)
  rintro e w2 ⟨rfl, hx2⟩
  have z2 := hx2.size
  try simp at z2
  replace HS := Lib.hid (HS.out.ext (Ext.trans (by repeat (first | with_reducible exact Ext.refl _ | with_reducible refine Ext.drew ?_ | with_reducible refine Ext.drewN ?_ _ | with_reducible refine Ext.alloc ?_ _ | with_reducible refine Ext.setCell ?_ (by first | omega | (simp; done) | (simp; omega)) _)) hx2))
  have X2 : Hid (Ext w w2) := Lib.hid (Ext.trans (by repeat (first | with_reducible exact X1.out | with_reducible refine Ext.drew ?_ | with_reducible refine Ext.drewN ?_ _ | with_reducible refine Ext.alloc ?_ _ | with_reducible refine Ext.setCell ?_ (by first | omega | (simp; done) | (simp; omega)) _)) hx2)
  clear X1 hx2 z2
  go_wp2_with fail
  have hrm2 := Ext.size X2.out
  (with_reducible refine (vClone_any A c l _ (HS.out.ext (by repeat (first | with_reducible exact Ext.refl _ | with_reducible refine Ext.drew ?_ | with_reducible refine Ext.drewN ?_ _ | with_reducible refine Ext.alloc ?_ _ | with_reducible refine Ext.setCell ?_ (by first | omega | (simp; done) | (simp; omega)) _))) (by omega) hnil).mono ?_)
  rintro e w3 ⟨A3, c3, rfl, hA3, hO3, hx3⟩
  have z3 := hx3.size
  try simp at z3
  replace HS := Lib.hid (HS.out.ext (Ext.trans (by repeat (first | with_reducible exact Ext.refl _ | with_reducible refine Ext.drew ?_ | with_reducible refine Ext.drewN ?_ _ | with_reducible refine Ext.alloc ?_ _ | with_reducible refine Ext.setCell ?_ (by first | omega | (simp; done) | (simp; omega)) _)) hx3))
  have X3 : Hid (Ext w w3) := Lib.hid (Ext.trans (by repeat (first | with_reducible exact X2.out | with_reducible refine Ext.drew ?_ | with_reducible refine Ext.drewN ?_ _ | with_reducible refine Ext.alloc ?_ _ | with_reducible refine Ext.setCell ?_ (by first | omega | (simp; done) | (simp; omega)) _)) hx3)
  have HO := Lib.hid hO3
  clear X2 hx3 z3 hO3
  go_wp2_with (at_builtin; refine wpList_append_new _ rfl _ _ 40 rfl w.heap.size 96 i0 (.agg #[.int .i64 0, .int .u64 0, .int .i64 0, .int .i64 0, .bool false, .bool false]) 6 40 Try.underlying40 hi0 hz0 hz1 hz2 rfl (by decide) _ l.length _ (by rfl) (OwnVal.lower HO.out hrm2) #[.int .i64 o, .int .u64 m, .int .i64 1, .int .i64 0, .bool false, .bool false] 1 (by first | rfl | (simp [Act.eval]; done) | (simp [Act.eval, go_sem]; done)) rfl (by intro u hu; simp at hu; rcases hu with rfl | rfl | rfl | rfl | rfl | rfl <;> rfl) (by omega) (by decide) (by have := Ext.size X3.out; omega) ?_; intro v2 w4 hown2 hb2)
  have hown3 : OwnVal w4 w.heap.size v2 (l.length + 1) (l ++ [(o, m, 1, 0, false, false)]) := OwnVal.snoc hown2
  obtain ⟨A4, c4, rfl, h4, _⟩ := own_parts2 hown3
  refine bodyPost_ret (v := .tuple #[.slice A4 (l.length + 1) c4, .int .i64 (l.length : Nat), .int .i64 0]) (by simp [results, Try.results33]; try rfl) rfl (RetV.mk (xs := [.int .i64 (l.length : Nat), .int .i64 0]) hown3 (Ext.below X3.out hb2) (by simp))
theorem rosCreate_any (A : Option Addr) (n c : Nat) (l : List (Int × Int × Int × Int × Bool × Bool)) (o m : Int) (w : World) (h : Sl w 6 A n c (l.flatMap valC)) (hw : ∀ x ∈ l, (Lit.int .i64 x.1).wf = true) (hnil : A = none → c = 0) :
    Calls Try.prog 33 #[.slice A n c, .int .i64 o, .int .u64 m] w (RetV (creV l o m).1 [.int .i64 (creV l o m).2.1, .int .i64 (creV l o m).2.2] w) := by
  obtain ⟨⟨f1, f2⟩, hf⟩ : ∃ F, F = chkV l := ⟨_, rfl⟩
  obtain ⟨⟨fi, fb⟩, hi⟩ : ∃ F, F = fndV l o := ⟨_, rfl⟩
  by_cases hc : f1 = 0
  · by_cases h0 : o < 0
    · exact rosCreate_neg A n c l o m f1 f2 fi fb w h hw hf hi hc h0
    by_cases h1 : o ≥ 64
    · exact rosCreate_big A n c l o m f1 f2 fi fb w h hw hf hi hc h1
    by_cases hm : m = 0
    · exact rosCreate_arg A n c l o m f1 f2 fi fb w h hw hf hi hc h0 h1 hm
    by_cases hb : fb = true
    · exact rosCreate_dbl A n c l o m f1 f2 fi fb w h hw hf hi hc h0 h1 hm hb
    by_cases hg : 32 ≤ l.length
    · exact rosCreate_full A n c l o m f1 f2 fi fb w h hw hf hi hc h0 h1 hm (by simpa using hb) hg
    exact rosCreate_ok A n c l o m f1 f2 fi fb w h hw hf hi hnil hc h0 h1 hm (by simpa using hb) hg
  · exact rosCreate_chk A n c l o m f1 f2 fi fb w h hw hf hi hc
end Go.Proofs.Ytjdpgapmdmpjjaa
