/- stamp.Compare: which of two stamps is ahead. Conditions: none. -/
import Derived.Test.YthaknigljjnnaaaStampB
set_option linter.unusedVariables false
set_option linter.unusedSimpArgs false
namespace Go.Proofs.Ythaknigljjnnaaa
open Go.RowKit

def cmpL : List (Int × Int) → Int
  | [] => 0
  | x :: l => if x.1 < x.2 then -1 else if x.2 < x.1 then 1 else cmpL l
theorem cmpL_drop {l : List (Int × Int)} {k : Nat} {x : Int × Int} (h : l[k]? = some x) : cmpL (l.drop k) = if x.1 < x.2 then -1 else if x.2 < x.1 then 1 else cmpL (l.drop (k + 1)) := by
  obtain ⟨hk, rfl⟩ := List.getElem?_eq_some_iff.1 h
  rw [List.drop_eq_getElem_cons hk]
  rfl
set_option maxRecDepth 100000 in
set_option maxHeartbeats 4000000 in
theorem tCompare_any (a b c d a' b' c' d' : Int) (w : World) :
    Calls Try.prog 66 #[.agg #[.int .i64 a, .int .i64 b, .int .i64 c, .int .i64 d], .agg #[.int .i64 a', .int .i64 b', .int .i64 c', .int .i64 d']] w fun r w' => r = .returned (.int .i64 (cmpL [(a, a'), (b, b'), (c, c'), (d, d')])) ∧ Ext w w' := by
  obtain ⟨V, hV⟩ : ∃ V, V = cmpL [(a, a'), (b, b'), (c, c'), (d, d')] := ⟨_, rfl⟩
  rw [← hV]
  have HV := Lib.hid hV
  clear hV
  have i0 : ∀ w : World, (Instr.index 139 (.agg #[.int .i64 a, .int .i64 a', .int .i64 b, .int .i64 b', .int .i64 c, .int .i64 c', .int .i64 d, .int .i64 d']) (.int .i64 0)).run Try.prog w = .ok (.agg #[.int .i64 a, .int .i64 a']) w := fun _ => by kernel_rfl
  have i1 : ∀ w : World, (Instr.index 139 (.agg #[.int .i64 a, .int .i64 a', .int .i64 b, .int .i64 b', .int .i64 c, .int .i64 c', .int .i64 d, .int .i64 d']) (.int .i64 1)).run Try.prog w = .ok (.agg #[.int .i64 b, .int .i64 b']) w := fun _ => by kernel_rfl
  have i2 : ∀ w : World, (Instr.index 139 (.agg #[.int .i64 a, .int .i64 a', .int .i64 b, .int .i64 b', .int .i64 c, .int .i64 c', .int .i64 d, .int .i64 d']) (.int .i64 2)).run Try.prog w = .ok (.agg #[.int .i64 c, .int .i64 c']) w := fun _ => by kernel_rfl
  have i3 : ∀ w : World, (Instr.index 139 (.agg #[.int .i64 a, .int .i64 a', .int .i64 b, .int .i64 b', .int .i64 c, .int .i64 c', .int .i64 d, .int .i64 d']) (.int .i64 3)).run Try.prog w = .ok (.agg #[.int .i64 d, .int .i64 d']) w := fun _ => by kernel_rfl
  go_enter Try.func66, Try.ntmps66
  go_wp2
  go_step3
  go_wp2
  go_step3
  go_wp2
  go_loopg [5, 29] 4 (fun gh s i wx => gh ≤ 4 ∧ s = .int .i64 0 ∧ i = .int .i64 ((4 - gh : Nat) : Int) ∧ Hid (V = cmpL ([(a, a'), (b, b'), (c, c'), (d, d')].drop (4 - gh))) ∧ Ext w wx)
  case atStart => exact ⟨Nat.le_refl _, rfl, by simp, HV, (by repeat (first | assumption | exact Ext.refl _ | refine Ext.drew ?_ | refine Ext.drewN ?_ _ | refine Ext.alloc ?_ _ | refine Ext.setCell ?_ (by first | omega | (simp; done) | (simp; omega)) _ | refine Ext.trans ?_ (by assumption)))⟩
  case round =>
    obtain ⟨hg, rfl, hi, H, hx⟩ := hrel
    have XW := Lib.hid hx
    clear hx HV
    have hcase : gk = 0 ∨ gk = 4 ∨ gk = 3 ∨ gk = 2 ∨ gk = 1 := by omega
    rcases hcase with rfl | rfl | rfl | rfl | rfl
    · change _ = Value.int .i64 4 at hi
      obtain rfl := hi
      have hv : V = 0 := H.out
      subst hv
      clear H
      go_wp2
      try rw [Exit.noGoto_ret]
      go_ret
      exact ⟨rfl, XW.out⟩
    · change _ = Value.int .i64 0 at hi
      obtain rfl := hi
      have hd := H.out.trans (cmpL_drop (l := [(a, a'), (b, b'), (c, c'), (d, d')]) (k := 0) (x := (a, a')) rfl)
      clear H
      by_cases h1 : a < a'
      · rw [if_pos h1] at hd
        subst hd
        go_wp2
        try rw [Exit.noGoto_ret]
        go_ret
        exact ⟨rfl, (by have X := XW.out; exact (by repeat (first | with_reducible exact X | with_reducible refine Ext.drew ?_ | with_reducible refine Ext.alloc ?_ _)))⟩
      · by_cases h2 : a' < a
        · rw [if_neg h1, if_pos h2] at hd
          subst hd
          go_wp2
          try rw [Exit.noGoto_ret]
          go_ret
          exact ⟨rfl, (by have X := XW.out; exact (by repeat (first | with_reducible exact X | with_reducible refine Ext.drew ?_ | with_reducible refine Ext.alloc ?_ _)))⟩
        · rw [if_neg h1, if_neg h2] at hd
          have H := Lib.hid hd
          clear hd
          go_wp2
          go_roundg 3
          case measure => decide
          case rel => exact ⟨by decide, rfl, rfl, H, (by have X := XW.out; exact (by repeat (first | with_reducible exact X | with_reducible refine Ext.drew ?_ | with_reducible refine Ext.alloc ?_ _)))⟩
    · change _ = Value.int .i64 1 at hi
      obtain rfl := hi
      have hd := H.out.trans (cmpL_drop (l := [(a, a'), (b, b'), (c, c'), (d, d')]) (k := 1) (x := (b, b')) rfl)
      clear H
      by_cases h1 : b < b'
      · rw [if_pos h1] at hd
        subst hd
        go_wp2
        try rw [Exit.noGoto_ret]
        go_ret
        exact ⟨rfl, (by have X := XW.out; exact (by repeat (first | with_reducible exact X | with_reducible refine Ext.drew ?_ | with_reducible refine Ext.alloc ?_ _)))⟩
      · by_cases h2 : b' < b
        · rw [if_neg h1, if_pos h2] at hd
          subst hd
          go_wp2
          try rw [Exit.noGoto_ret]
          go_ret
          exact ⟨rfl, (by have X := XW.out; exact (by repeat (first | with_reducible exact X | with_reducible refine Ext.drew ?_ | with_reducible refine Ext.alloc ?_ _)))⟩
        · rw [if_neg h1, if_neg h2] at hd
          have H := Lib.hid hd
          clear hd
          go_wp2
          go_roundg 2
          case measure => decide
          case rel => exact ⟨by decide, rfl, rfl, H, (by have X := XW.out; exact (by repeat (first | with_reducible exact X | with_reducible refine Ext.drew ?_ | with_reducible refine Ext.alloc ?_ _)))⟩
    · change _ = Value.int .i64 2 at hi
      obtain rfl := hi
      have hd := H.out.trans (cmpL_drop (l := [(a, a'), (b, b'), (c, c'), (d, d')]) (k := 2) (x := (c, c')) rfl)
      clear H
      by_cases h1 : c < c'
      · rw [if_pos h1] at hd
        subst hd
        go_wp2
        try rw [Exit.noGoto_ret]
        go_ret
        exact ⟨rfl, (by have X := XW.out; exact (by repeat (first | with_reducible exact X | with_reducible refine Ext.drew ?_ | with_reducible refine Ext.alloc ?_ _)))⟩
      · by_cases h2 : c' < c
        · rw [if_neg h1, if_pos h2] at hd
          subst hd
          go_wp2
          try rw [Exit.noGoto_ret]
          go_ret
          exact ⟨rfl, (by have X := XW.out; exact (by repeat (first | with_reducible exact X | with_reducible refine Ext.drew ?_ | with_reducible refine Ext.alloc ?_ _)))⟩
        · rw [if_neg h1, if_neg h2] at hd
          have H := Lib.hid hd
          clear hd
          go_wp2
          go_roundg 1
          case measure => decide
          case rel => exact ⟨by decide, rfl, rfl, H, (by have X := XW.out; exact (by repeat (first | with_reducible exact X | with_reducible refine Ext.drew ?_ | with_reducible refine Ext.alloc ?_ _)))⟩
    · change _ = Value.int .i64 3 at hi
      obtain rfl := hi
      have hd := H.out.trans (cmpL_drop (l := [(a, a'), (b, b'), (c, c'), (d, d')]) (k := 3) (x := (d, d')) rfl)
      clear H
      by_cases h1 : d < d'
      · rw [if_pos h1] at hd
        subst hd
        go_wp2
        try rw [Exit.noGoto_ret]
        go_ret
        exact ⟨rfl, (by have X := XW.out; exact (by repeat (first | with_reducible exact X | with_reducible refine Ext.drew ?_ | with_reducible refine Ext.alloc ?_ _)))⟩
      · by_cases h2 : d' < d
        · rw [if_neg h1, if_pos h2] at hd
          subst hd
          go_wp2
          try rw [Exit.noGoto_ret]
          go_ret
          exact ⟨rfl, (by have X := XW.out; exact (by repeat (first | with_reducible exact X | with_reducible refine Ext.drew ?_ | with_reducible refine Ext.alloc ?_ _)))⟩
        · rw [if_neg h1, if_neg h2] at hd
          have H := Lib.hid hd
          clear hd
          go_wp2
          go_roundg 0
          case measure => decide
          case rel => exact ⟨by decide, rfl, rfl, H, (by have X := XW.out; exact (by repeat (first | with_reducible exact X | with_reducible refine Ext.drew ?_ | with_reducible refine Ext.alloc ?_ _)))⟩
end Go.Proofs.Ythaknigljjnnaaa
