/- law14: contracts by value, rows that stay. Conditions stand in each lemma. -/
import Derived.Test.YtnbeejgppooamaaQ10
import Derived.Test.YtnbeejgppooamaaEntOpen
import Derived.Test.YtnbeejgppooamaaLow
set_option linter.unusedVariables false
set_option linter.unusedSimpArgs false
namespace Go.Proofs.Ytnbeejgppooamaa
open Go.RowKit Go.ChangeShapes Go.WideShapes Go.Deep Go.Joins

theorem OwnEnt.but {S : Nat → Prop} {w w' : World} {base n c m : Nat} {A : Option Addr} {l : List (Int × Int × Int × Int × Int × Int × Int × Int)} (h : OwnEnt w base (.slice A m c) n l) (hx : But S w w') (hS : ∀ k o s, A = some ⟨k, o, s⟩ → ¬ S k) : OwnEnt w' base (.slice A m c) n l := by
  refine own_but1Word h hx (fun j hj => ?_)
  cases A with
  | none => cases hj
  | some a => obtain ⟨b, o, s⟩ := a
              injection hj with hj
              have hj2 : b = j := hj
              subst hj2
              exact hS b o s rfl
theorem OwnShave.but {S : Nat → Prop} {w w' : World} {base n c m : Nat} {A : Option Addr} {l : List (Int × Int)} (h : OwnShave w base (.slice A m c) n l) (hx : But S w w') (hS : ∀ k o s, A = some ⟨k, o, s⟩ → ¬ S k) : OwnShave w' base (.slice A m c) n l := by
  refine own_but1Word h hx (fun j hj => ?_)
  cases A with
  | none => cases hj
  | some a => obtain ⟨b, o, s⟩ := a
              injection hj with hj
              have hj2 : b = j := hj
              subst hj2
              exact hS b o s rfl
theorem kSameEntries_eq (A B : Option Addr) (n c m d : Nat) (l : List (Int × Int × Int × Int × Int × Int × Int × Int)) (w : World) (h1 : Sl w 8 A n c (l.flatMap entC)) (h2 : Sl w 8 B m d (l.flatMap entC)) :
    Calls Try.prog 16 #[.slice A n c, .slice B m d] w fun e w' => e = .returned (.bool true) ∧ Ext w w' := by
  have := kSameEntries_any A B n c m d l l w h1 h2
  simpa using this
theorem kSameShaves_eq (A B : Option Addr) (n c m d : Nat) (l : List (Int × Int)) (w : World) (h1 : Sl w 2 A n c (l.flatMap shaveC)) (h2 : Sl w 2 B m d (l.flatMap shaveC)) :
    Calls Try.prog 23 #[.slice A n c, .slice B m d] w fun e w' => e = .returned (.bool true) ∧ Ext w w' := by
  have := kSameShaves_any A B n c m d l l w h1 h2
  simpa using this
theorem qcheck_ev (A : Option Addr) (n c : Nat) (l : List (Int × Int × Int × Int × Int × Int × Int × Int)) (e1 e2 : Int) (w : World) (h : Sl w 8 A n c (l.flatMap entC)) (hf : ∀ x ∈ l, FitsQ x) (he : (e1, e2) = chkQ l) :
    Calls Try.prog 14 #[.slice A n c] w fun e w' => e = .returned (.tuple #[.int .i64 e1, .int .i64 e2]) ∧ Ext w w' := qcheck_any A n c l e1 e2 w h hf he.symm
theorem rcheck14_ev (A : Option Addr) (n c : Nat) (l : List (Int × Int × Int × Int × Int × Int × Int × Int)) (e1 e2 : Int) (w : World) (h : Sl w 8 A n c (l.flatMap entC)) (hf : ∀ x ∈ l, FitsQ x) (he : (e1, e2) = chkQ l) :
    Calls Try.prog 15 #[.slice A n c] w fun e w' => e = .returned (.tuple #[.int .i64 e1, .int .i64 e2]) ∧ Ext w w' := rcheck14_any A n c l e1 e2 w h hf he.symm
theorem rtotal14_ev (A : Option Addr) (n c : Nat) (l : List (Int × Int × Int × Int × Int × Int × Int × Int)) (u e : Int) (w : World) (h : Sl w 8 A n c (l.flatMap entC)) (hf : ∀ x ∈ l, FitsQ x) (he : e = (chkQ l).1) (hu : u = if e = 0 then totB l else 0) :
    Calls Try.prog 21 #[.slice A n c] w fun r w' => r = .returned (.tuple #[.int .u64 u, .int .i64 e]) ∧ Ext w w' := by
  subst he
  exact rtotal14_any A n c l (chkQ l).1 (chkQ l).2 w h hf rfl u hu
theorem rlive14_n (A : Option Addr) (n c : Nat) (l : List (Int × Int × Int × Int × Int × Int × Int × Int)) (ow v k : Int) (w : World) (h : Sl w 8 A n c (l.flatMap entC)) (hn : n ≤ 100000) (hf : ∀ x ∈ l, FitsQ x) (hk : ((liveQ l ow v : Nat) : Int) = k) : Calls Try.prog 26 #[.slice A n c, .int .i64 ow, .int .i64 v] w fun e w' => e = .returned (.int .i64 k) ∧ Ext w w' := by
  have := rlive14_any A n c l ow v w h hn hf
  rw [hk] at this
  exact this
theorem qof_ev (A : Option Addr) (n c : Nat) (l R : List (Int × Int × Int × Int × Int × Int × Int × Int)) (ow : Int) (w : World) (h : Sl w 8 A n c (l.flatMap entC)) (hn : n ≤ 100000) (hf : ∀ x ∈ l, FitsQ x) (hR : R = ofQ l ow) :
    Calls Try.prog 22 #[.slice A n c, .int .i64 ow] w (RetEnt R w) := by rw [hR]; exact qof_any A n c l ow w h hn hf
theorem rof14_ev (A : Option Addr) (n c : Nat) (l R : List (Int × Int × Int × Int × Int × Int × Int × Int)) (ow : Int) (w : World) (h : Sl w 8 A n c (l.flatMap entC)) (hn : n ≤ 100000) (hf : ∀ x ∈ l, FitsQ x) (hR : R = ofQ l ow) :
    Calls Try.prog 24 #[.slice A n c, .int .i64 ow] w (RetEnt R w) := by rw [hR]; exact rof14_any A n c l ow w h hn hf
set_option maxRecDepth 100000 in
set_option maxHeartbeats 4000000 in
theorem kOverEntries_win (g K N C n c base : Nat) (xs : List Value) (w : World) (h : w.ownsRow base 27 8 (.slice (some ⟨g, 0, none⟩) N C) N xs) (hKn : K + n ≤ N) (hN : N ≤ 100000) :
    Calls Try.prog 17 #[.slice (some ⟨g, K * 8, none⟩) n c] w fun r w' => (∃ v, r = .returned v) ∧ (∃ ys, w'.ownsRow base 27 8 (.slice (some ⟨g, 0, none⟩) N C) N ys) ∧ But (· = g) w w' := by
  have HO := Lib.hid h
  clear h
  go_enter Try.func17, Try.ntmps17
  go_wp2
  go_loopg [2] n (fun gh i wx => gh ≤ n ∧ i = .int .i64 ((n - gh : Nat) : Int) ∧ ∃ xs, wx.ownsRow base 27 8 (.slice (some ⟨g, 0, none⟩) N C) N xs ∧ But (· = g) w wx)
  case atStart => exact ⟨Nat.le_refl _, by simp, _, HO.out, But.refl _ _⟩
  case round =>
    obtain ⟨hg, hi, xs, hw, hb⟩ := hrel
    have hl := hw.1
    have HW := Lib.hid hw
    have HBB := Lib.hid hb
    obtain ⟨k, hk⟩ : ∃ k, k = n - gk := ⟨_, rfl⟩
    rw [← hk] at hi
    subst hi
    by_cases hz : gk = 0
    · have hkn : ¬ (k : Int) < n := by omega
      clear hw hb hl hg hk hz
      go_wp2
      go_end0
      exact ⟨⟨_, rfl⟩, ⟨_, HW.out⟩, HBB.out⟩
    · have hkn : (k : Int) < n := by omega
      have c0 := (hw.cellAt ((K + k) * 8) (by omega)).trans (List.getElem?_eq_getElem (by omega))
      have f0 := hw.frozenAt ((K + k) * 8)
      generalize xs[(K + k) * 8] = u0 at c0
      have c1 := (hw.cellAt ((K + k) * 8 + 1) (by omega)).trans (List.getElem?_eq_getElem (by omega))
      have f1 := hw.frozenAt ((K + k) * 8 + 1)
      generalize xs[(K + k) * 8 + 1] = u1 at c1
      have c2 := (hw.cellAt ((K + k) * 8 + 2) (by omega)).trans (List.getElem?_eq_getElem (by omega))
      have f2 := hw.frozenAt ((K + k) * 8 + 2)
      generalize xs[(K + k) * 8 + 2] = u2 at c2
      have c3 := (hw.cellAt ((K + k) * 8 + 3) (by omega)).trans (List.getElem?_eq_getElem (by omega))
      have f3 := hw.frozenAt ((K + k) * 8 + 3)
      generalize xs[(K + k) * 8 + 3] = u3 at c3
      have c4 := (hw.cellAt ((K + k) * 8 + 4) (by omega)).trans (List.getElem?_eq_getElem (by omega))
      have f4 := hw.frozenAt ((K + k) * 8 + 4)
      generalize xs[(K + k) * 8 + 4] = u4 at c4
      have c5 := (hw.cellAt ((K + k) * 8 + 5) (by omega)).trans (List.getElem?_eq_getElem (by omega))
      have f5 := hw.frozenAt ((K + k) * 8 + 5)
      generalize xs[(K + k) * 8 + 5] = u5 at c5
      have c6 := (hw.cellAt ((K + k) * 8 + 6) (by omega)).trans (List.getElem?_eq_getElem (by omega))
      have f6 := hw.frozenAt ((K + k) * 8 + 6)
      generalize xs[(K + k) * 8 + 6] = u6 at c6
      have c7 := (hw.cellAt ((K + k) * 8 + 7) (by omega)).trans (List.getElem?_eq_getElem (by omega))
      have f7 := hw.frozenAt ((K + k) * 8 + 7)
      generalize xs[(K + k) * 8 + 7] = u7 at c7
      rw [show (K + k) * 8 = K * 8 + k * 8 from by omega] at c0 f0
      rw [show (K + k) * 8 + 1 = K * 8 + k * 8 + 1 from by omega] at c1 f1
      rw [show (K + k) * 8 + 2 = K * 8 + k * 8 + 2 from by omega] at c2 f2
      rw [show (K + k) * 8 + 3 = K * 8 + k * 8 + 3 from by omega] at c3 f3
      rw [show (K + k) * 8 + 4 = K * 8 + k * 8 + 4 from by omega] at c4 f4
      rw [show (K + k) * 8 + 5 = K * 8 + k * 8 + 5 from by omega] at c5 f5
      rw [show (K + k) * 8 + 6 = K * 8 + k * 8 + 6 from by omega] at c6 f6
      rw [show (K + k) * 8 + 7 = K * 8 + k * 8 + 7 from by omega] at c7 f7
      have HK := Lib.hid (And.intro hk (And.intro hg hz))
      clear hw hb hl hk hg hz
      go_wp2
      go_roundg (gk - 1)
      case measure => have := HK.out; omega
      case rel =>
        rw [show K * 8 + k * 8 = (K + k) * 8 from by omega]
        exact ⟨by have := HK.out; omega, num_eq (by have := HK.out; omega), _, ((((((((((((((((HW.out).stored ((K + k) * 8) (.int .i64 (-77))).1).stored ((K + k) * 8 + 1) (.int .i64 0)).1).stored ((K + k) * 8 + 2) (.int .i64 0)).1).stored ((K + k) * 8 + 3) (.int .i64 0)).1).stored ((K + k) * 8 + 4) (.int .i64 0)).1).stored ((K + k) * 8 + 5) (.int .i64 0)).1).stored ((K + k) * 8 + 6) (.int .u64 0)).1).stored ((K + k) * 8 + 7) (.int .u64 0)).1, ((((((((((((((((HBB.out).setCell (p := ⟨g, (K + k) * 8, none⟩) rfl _)).setCell (p := ⟨g, (K + k) * 8 + 1, none⟩) rfl _)).setCell (p := ⟨g, (K + k) * 8 + 2, none⟩) rfl _)).setCell (p := ⟨g, (K + k) * 8 + 3, none⟩) rfl _)).setCell (p := ⟨g, (K + k) * 8 + 4, none⟩) rfl _)).setCell (p := ⟨g, (K + k) * 8 + 5, none⟩) rfl _)).setCell (p := ⟨g, (K + k) * 8 + 6, none⟩) rfl _)).setCell (p := ⟨g, (K + k) * 8 + 7, none⟩) rfl _)⟩
end Go.Proofs.Ytnbeejgppooamaa
