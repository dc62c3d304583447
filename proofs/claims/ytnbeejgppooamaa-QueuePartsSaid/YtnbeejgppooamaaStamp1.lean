/- The inner functions of stamp: bounds, the first rule that holds. Conditions stand in each lemma. -/
import Derived.Test.YtnbeejgppooamaaReader
import Derived.Test.YtnbeejgppooamaaRec
import Derived.Test.YtnbeejgppooamaaHeld
import Derived.Test.YtnbeejgppooamaaHas
set_option linter.unusedVariables false
set_option linter.unusedSimpArgs false
namespace Go.Proofs.Ytnbeejgppooamaa
open Go.RowKit

def outB (n lo hi : Int) : Bool := decide (n < lo) || decide (hi < n)
theorem tout_any (n lo hi : Int) (w : World) :
    Calls Try.prog 96 #[.int .i64 n, .int .i64 lo, .int .i64 hi] w fun r w' => r = .returned (.bool (outB n lo hi)) ∧ w = w' := by
  unfold outB
  by_cases h1 : n < lo
  · have e : (decide (n < lo) || decide (hi < n)) = true := by simp [h1]
    rw [e]
    go_enter Try.func96, Try.ntmps96
    go_wp2
    go_ret
    exact ⟨rfl, rfl⟩
  · obtain ⟨b, hb⟩ : ∃ b, decide (hi < n) = b := ⟨_, rfl⟩
    have e : (decide (n < lo) || decide (hi < n)) = b := by simp [h1, hb]
    rw [e]
    have h1' : decide (n < lo) = false := decide_eq_false h1
    clear h1 e
    go_enter Try.func96, Try.ntmps96
    go_wp2
    go_ret
    exact ⟨rfl, rfl⟩
theorem tnoone_any (n : Int) (w : World) :
    Calls Try.prog 94 #[.int .i64 n] w fun r w' => r = .returned (.bool (outB n 0 31)) ∧ w = w' := by
  go_enter Try.func94, Try.ntmps94
  go_wp2_with fail
  refine (tout_any n 0 31 _).mono ?_
  rintro r w1 ⟨rfl, rfl⟩
  go_wp2
  go_ret
  exact ⟨rfl, rfl⟩
theorem tnowhen_any (n : Int) (w : World) :
    Calls Try.prog 95 #[.int .i64 n] w fun r w' => r = .returned (.bool (outB n 1 4294967296)) ∧ w = w' := by
  go_enter Try.func95, Try.ntmps95
  go_wp2_with fail
  refine (tout_any n 1 4294967296 _).mono ?_
  rintro r w1 ⟨rfl, rfl⟩
  go_wp2
  go_ret
  exact ⟨rfl, rfl⟩
/-- a rule's cells -/
def rc (x : Bool × Int) : List Value := [.bool x.1, .int .i64 x.2]
theorem rc_len (x : Bool × Int) : (rc x).length = 2 := rfl
def firstR : List (Bool × Int) → Int
  | [] => 0
  | x :: l => if x.1 = true then x.2 else firstR l
theorem firstR_drop {l : List (Bool × Int)} {k : Nat} {x : Bool × Int} (h : l[k]? = some x) : firstR (l.drop k) = if x.1 = true then x.2 else firstR (l.drop (k + 1)) := by
  obtain ⟨hk, rfl⟩ := List.getElem?_eq_some_iff.1 h
  rw [List.drop_eq_getElem_cons hk]
  rfl
set_option maxHeartbeats 1000000 in
theorem tfirst_any (A : Option Addr) (n c : Nat) (l : List (Bool × Int)) (w : World) (h : Sl w 2 A n c (l.flatMap rc)) :
    Calls Try.prog 93 #[.slice A n c] w fun r w' => r = .returned (.int .i64 (firstR l)) ∧ Ext w w' := by
  have hs := h.small
  obtain ⟨V, hV⟩ : ∃ V, V = firstR l := ⟨_, rfl⟩
  rw [← hV]
  have HV := Lib.hid hV
  have HL := Lib.hid (h.rlen rc_len (by decide))
  have HH := Lib.hid h
  clear hV h
  go_enter Try.func93, Try.ntmps93
  go_wp2
  go_loopg [7] n (fun g i wx => g ≤ n ∧ Hid (V = firstR (l.drop (n - g))) ∧ i = .int .i64 ((n - g : Nat) : Int) ∧ Ext w wx)
  case atStart => exact ⟨Nat.le_refl _, by show V = firstR (l.drop (n - n)); rw [Nat.sub_self]; exact HV.out, by simp, Ext.refl _⟩
  case round =>
    obtain ⟨hg, H, hi, hx⟩ := hrel
    obtain ⟨k, hk⟩ : ∃ k, k = n - gk := ⟨_, rfl⟩
    rw [← hk] at H hi
    subst hi
    have XW := Lib.hid hx
    by_cases hz : gk = 0
    · have hkn : ¬ (k : Int) < n := by omega
      have e : V = 0 := by
        rw [H.out, List.drop_eq_nil_of_le (by have := HL.out; omega)]; rfl
      subst e
      clear H hz hg hk hx
      go_wp2
      go_ret
      exact ⟨rfl, XW.out⟩
    · have hkn : (k : Int) < n := by omega
      have hkl : k < l.length := by have := HL.out; omega
      obtain ⟨b1, o1, rfl, hb1, hc1⟩ := (HH.out.ext hx).rec_ rc_len (show 0 < n from by omega)
      have e0 := hc1 k _ (List.getElem?_eq_getElem hkl) 0 _ rfl
      have e1 := hc1 k _ (List.getElem?_eq_getElem hkl) 1 _ rfl
      have hd := firstR_drop (List.getElem?_eq_getElem hkl)
      obtain ⟨x, hxx⟩ : ∃ x, x = l[k] := ⟨_, rfl⟩
      rw [← hxx] at e0 e1 hd
      obtain ⟨bx, ex⟩ := x
      simp only at e0 e1 hd
      rw [Nat.add_zero] at e0
      rw [← Nat.add_assoc] at e1
      rw [← H.out] at hd
      have HD := Lib.hid hd
      have HK := Lib.hid (And.intro hk (And.intro hg hz))
      have g1 : ¬ b1 = wr.heap.size := by omega
      have g2 : b1 < wr.heap.size := hb1
      clear hc1 hxx hkl hk hg hz hd H hx
      cases bx
      · have hd := HD.out
        rw [if_neg (by decide)] at hd
        have HD2 := Lib.hid hd
        clear hd HD
        go_wp2
        go_roundg (gk - 1)
        case measure => have := HK.out; omega
        case rel => exact ⟨by have := HK.out; omega, by rw [show n - (gk - 1) = k + 1 from by have := HK.out; omega]; exact HD2, num_eq (by have := HK.out; omega), by have X := XW.out; exact (by repeat (first | assumption | exact Ext.refl _ | refine Ext.drew ?_ | refine Ext.drewN ?_ _ | refine Ext.alloc ?_ _ | refine Ext.setCell ?_ (by first | omega | (simp; done) | (simp; omega)) _ | refine Ext.trans ?_ (by assumption)))⟩
      · have hd := HD.out
        rw [if_pos rfl] at hd
        subst hd
        clear HD
        go_wp2
        go_ret
        exact ⟨rfl, by have X := XW.out; exact (by repeat (first | assumption | exact Ext.refl _ | refine Ext.drew ?_ | refine Ext.drewN ?_ _ | refine Ext.alloc ?_ _ | refine Ext.setCell ?_ (by first | omega | (simp; done) | (simp; omega)) _ | refine Ext.trans ?_ (by assumption)))⟩
end Go.Proofs.Ytnbeejgppooamaa
