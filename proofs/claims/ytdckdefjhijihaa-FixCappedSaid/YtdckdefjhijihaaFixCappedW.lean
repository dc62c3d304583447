/- What is proved: distraintlaw01.FixCapped returns true for every four words and every list of words; nothing that was there is written. Conditions: none. -/
import Derived.Test.YtdckdefjhijihaaFixKnownW
set_option linter.unusedVariables false
set_option linter.unusedSimpArgs false
namespace Go.Proofs.Ytdckdefjhijihaa
open Go.RowKit

set_option maxRecDepth 100000 in
theorem FixCapped_long (m a b c : Int) (A : Option Addr) (n k : Nat) (l : List Int) (w : World) (hsl : Sl w 1 A n k (iv .u64 l)) (hn : (40 : Int) < n) :
    Calls Try.prog 8 #[.int .u64 m, .int .u64 a, .int .u64 b, .int .u64 c, .slice A n k] w fun r w' => r = .returned (.bool true) ∧ Ext w w' := by
  have hs := hsl.small
  clear hsl
  go_enter Try.func8, Try.ntmps8
  go_wp2_with fail
  refine (FixKnown_any _).mono ?_
  rintro e w1 ⟨rfl, hx1⟩
  go_wp2_with fail
  go_ret
  exact ⟨rfl, hx1⟩
set_option maxRecDepth 100000 in
theorem FixCapped_zero (m a b : Int) (hm : Word m) (ha : Word a) (hb : Word b) (A : Option Addr) (n k : Nat) (l : List Int) (w : World) (hsl : Sl w 1 A n k (iv .u64 l)) (hn : (n : Int) ≤ 40) :
    Calls Try.prog 8 #[.int .u64 m, .int .u64 a, .int .u64 b, .int .u64 0, .slice A n k] w fun r w' => r = .returned (.bool true) ∧ Ext w w' := by
  have C1 := Lib.hid (fCapped_at m a b 0 0 2 hm ha hb (wd _ rfl) rfl rfl)
  have C2 := Lib.hid (fMulDiv_at a b 0 0 2 ha hb (wd _ rfl) rfl rfl)
  clear hsl hm ha hb
  go_enter Try.func8, Try.ntmps8
  go_wp2_with fail
  refine (FixKnown_any _).mono ?_
  rintro e w1 ⟨rfl, hx1⟩
  go_wp2_with fail
  refine (C1.out _).mono ?_
  rintro e w2 ⟨rfl, hx2⟩
  go_wp2_with fail
  refine (C2.out _).mono ?_
  rintro e w3 ⟨rfl, hx3⟩
  go_wp2_with fail
  go_ret
  exact ⟨rfl, (by repeat (first | assumption | exact Ext.refl _ | refine Ext.drew ?_ | refine Ext.drewN ?_ _ | refine Ext.alloc ?_ _ | refine Ext.setCell ?_ (by first | omega | (simp; done) | (simp; omega)) _ | refine Ext.trans ?_ (by assumption)))⟩
set_option maxRecDepth 100000 in
set_option maxHeartbeats 1000000 in
theorem FixCapped_ok (m a b c x y z : Int) (hm : Word m) (ha : Word a) (hb : Word b) (hc : Word c) (hz : (c == 0) = false) (h1 : caN m a b c = x) (h2 : mdN a b c = y) (h3 : mdE a b c = z)
    (h4 : z = 0) (h5 : (if y < m then y else m) = x)
    (A : Option Addr) (n k : Nat) (l : List Int) (w : World) (hsl : Sl w 1 A n k (iv .u64 l)) (fl : ∀ x ∈ l, Word x) (hn : (n : Int) ≤ 40) :
    Calls Try.prog 8 #[.int .u64 m, .int .u64 a, .int .u64 b, .int .u64 c, .slice A n k] w fun r w' => r = .returned (.bool true) ∧ Ext w w' := by
  have C1 := Lib.hid (fCapped_at m a b c x 0 hm ha hb hc h1 (by unfold caE; rw [if_neg (by simpa using hz)]))
  have C2 := Lib.hid (fMulDiv_at a b c y z ha hb hc h2 h3)
  have S := Lib.hid hsl
  have L := Lib.hid fl
  clear hsl hm ha hb hc h1 h2 h3 fl
  have hnl := S.out.ilen
  have HN := Lib.hid hnl
  have hs := S.out.small
  clear hnl
  subst h4
  have hmin : ∀ (ts : Array TypeId) (t : TypeId) (w : World), (Builtin.min_ ts t #[.int .u64 m, .int .u64 y]).run Try.prog w = .ok (.int .u64 x) w := by
    intro ts t w
    rw [run_min_int2, h5]
  clear h5
  go_enter Try.func8, Try.ntmps8
  go_wp2_with fail
  refine (FixKnown_any _).mono ?_
  rintro e w1 ⟨rfl, hx1⟩
  go_wp2_with fail
  refine (C1.out _).mono ?_
  rintro e w2 ⟨rfl, hx2⟩
  go_wp2_with fail
  refine (C2.out _).mono ?_
  rintro e w3 ⟨rfl, hx3⟩
  clear C1 C2
  go_wp2_with fail
  have X3 := Lib.hid (hx1.trans (hx2.trans hx3))
  have SX := Lib.hid (S.out.ext X3.out)
  clear hx1 hx2 hx3
  go_loopg [16, 17, 18] n (fun g s e i wx => g ≤ n ∧ ∃ s' e' : Int, Hid (e' = 0 ∧ s' = sumL (l.take (n - g)) ∧ s' < 18446744073709551616 ∨ e' = 12 ∧ s' = 0 ∧ suN l = 0 ∧ suE l = 12) ∧ s = .int .u64 s' ∧ e = .int .i64 e' ∧ i = .int .i64 ((n - g : Nat) : Int) ∧ Ext w3 wx)
  case atStart => exact ⟨Nat.le_refl _, 0, 0, .inl ⟨rfl, by rw [Nat.sub_self]; rfl, by decide⟩, rfl, rfl, by simp, Ext.refl _⟩
  case round =>
    obtain ⟨hg, s, e, H, rfl, rfl, hi, hx⟩ := hrel
    obtain ⟨k2, hk⟩ : ∃ k2, k2 = n - gk := ⟨_, rfl⟩
    rw [← hk] at H hi
    subst hi
    have XW := Lib.hid (X3.out.trans hx)
    rcases H.out with ⟨rfl, H1⟩ | ⟨rfl, rfl, H2, H3⟩
    rotate_left
    · have P := Lib.hid (fSum_at A n k l 0 12 wr (SX.out.ext hx) L.out H2 H3)
      clear H hk hg H2 H3 hx
      by_cases hkn : (k2 : Int) < n
      all_goals
        go_wp2_with fail
        refine P.out.mono ?_
        rintro e w4 ⟨rfl, hx4⟩
        go_wp2_with fail
        go_ret
        exact ⟨rfl, XW.out.trans hx4⟩
    clear H
    have H := Lib.hid H1
    clear H1
    by_cases hz : gk = 0
    · have hkn : ¬ (k2 : Int) < n := by omega
      obtain ⟨h1, h2⟩ := H.out
      have hkl : k2 = l.length := by have := HN.out; omega
      obtain ⟨e1, e2⟩ := sum_done (l := l) (by rw [← hkl, ← h1]; exact h2)
      rw [← hkl, ← h1] at e1
      have P := Lib.hid (fSum_at A n k l s 0 wr (SX.out.ext hx) L.out e1 e2)
      clear H h1 h2 hkl e1 e2 hz hg hk hx
      go_wp2_with fail
      refine P.out.mono ?_
      rintro e w4 ⟨rfl, hx4⟩
      go_wp2_with fail
      go_ret
      exact ⟨rfl, XW.out.trans hx4⟩
    · have hkn : (k2 : Int) < n := by omega
      obtain ⟨h1, h2⟩ := H.out
      have hkl : k2 < l.length := by have := HN.out; omega
      obtain ⟨g1, g2, g3⟩ := sum_step L.out hkl (by rw [← h1]; exact h2)
      rw [← h1] at g1 g2 g3
      obtain ⟨b1, o1, rfl, hb1, hc1⟩ := (SX.out.ext hx).cell (show k2 < n from by omega)
      have hc2 := hc1 k2 (by omega)
      have R := fAdd_any s (l.getD k2 0) g1 (getD_word L.out k2)
      rw [g2, g3] at R
      obtain ⟨xx, hxx⟩ : ∃ x, x = l.getD k2 0 := ⟨_, rfl⟩
      rw [← hxx] at hc2 R
      have HK := Lib.hid (And.intro hk (And.intro hg hz))
      have N : Hid (if sumL (l.take (k2 + 1)) < 18446744073709551616 then True else suN l = 0 ∧ suE l = 12) := by
        show if _ then _ else _
        split
        · trivial
        · rename_i hlt; exact sum_over L.out hlt
      have XH := Lib.hid hx
      by_cases hlt : sumL (l.take (k2 + 1)) < 18446744073709551616
      · rw [if_pos hlt, if_pos hlt] at R
        have RR := Lib.hid R
        have N2 := Lib.hid (show sumL (l.take (k2 + 1)) = sumL (l.take (n - (gk - 1))) ∧ sumL (l.take (k2 + 1)) < 18446744073709551616 from ⟨by rw [show n - (gk - 1) = k2 + 1 from by omega], hlt⟩)
        clear R hlt h1 h2 g1 g2 g3 hxx hc1 hb1 hkl hk hg hz H N hx
        go_wp2_with fail
        refine (RR.out _).mono ?_
        rintro e w4 ⟨rfl, hx4⟩
        go_wp2_with fail
        go_roundg (gk - 1)
        case measure => have := HK.out; omega
        case rel => exact ⟨by have := HK.out; omega, _, _, .inl ⟨rfl, N2⟩, rfl, rfl, num_eq (by have := HK.out; omega), XH.out.trans hx4⟩
      · rw [if_neg hlt, if_neg hlt] at R
        have RR := Lib.hid R
        have N2 := N.out
        rw [if_neg hlt] at N2
        have N3 := Lib.hid N2
        clear R hlt h1 h2 g1 g2 g3 hxx hc1 hb1 hkl hk hg hz H N N2 hx
        go_wp2_with fail
        refine (RR.out _).mono ?_
        rintro e w4 ⟨rfl, hx4⟩
        go_wp2_with fail
        go_roundg (gk - 1)
        case measure => have := HK.out; omega
        case rel => exact ⟨by have := HK.out; omega, _, _, .inr ⟨rfl, rfl, N3.out.1, N3.out.2⟩, rfl, rfl, num_eq (by have := HK.out; omega), XH.out.trans hx4⟩

set_option maxRecDepth 100000 in
set_option maxHeartbeats 1000000 in
theorem FixCapped_over (m a b c x y z : Int) (hm : Word m) (ha : Word a) (hb : Word b) (hc : Word c) (hz : (c == 0) = false) (h1 : caN m a b c = x) (h2 : mdN a b c = y) (h3 : mdE a b c = z)
    (h4 : z = 12) (h5 : x = m)
    (A : Option Addr) (n k : Nat) (l : List Int) (w : World) (hsl : Sl w 1 A n k (iv .u64 l)) (fl : ∀ x ∈ l, Word x) (hn : (n : Int) ≤ 40) :
    Calls Try.prog 8 #[.int .u64 m, .int .u64 a, .int .u64 b, .int .u64 c, .slice A n k] w fun r w' => r = .returned (.bool true) ∧ Ext w w' := by
  have C1 := Lib.hid (fCapped_at m a b c x 0 hm ha hb hc h1 (by unfold caE; rw [if_neg (by simpa using hz)]))
  have C2 := Lib.hid (fMulDiv_at a b c y z ha hb hc h2 h3)
  have S := Lib.hid hsl
  have L := Lib.hid fl
  clear hsl hm ha hb hc h1 h2 h3 fl
  have hnl := S.out.ilen
  have HN := Lib.hid hnl
  have hs := S.out.small
  clear hnl
  subst h5
  subst h4
  go_enter Try.func8, Try.ntmps8
  go_wp2_with fail
  refine (FixKnown_any _).mono ?_
  rintro e w1 ⟨rfl, hx1⟩
  go_wp2_with fail
  refine (C1.out _).mono ?_
  rintro e w2 ⟨rfl, hx2⟩
  go_wp2_with fail
  refine (C2.out _).mono ?_
  rintro e w3 ⟨rfl, hx3⟩
  clear C1 C2
  go_wp2_with fail
  have X3 := Lib.hid (hx1.trans (hx2.trans hx3))
  have SX := Lib.hid (S.out.ext X3.out)
  clear hx1 hx2 hx3
  go_loopg [16, 17, 18] n (fun g s e i wx => g ≤ n ∧ ∃ s' e' : Int, Hid (e' = 0 ∧ s' = sumL (l.take (n - g)) ∧ s' < 18446744073709551616 ∨ e' = 12 ∧ s' = 0 ∧ suN l = 0 ∧ suE l = 12) ∧ s = .int .u64 s' ∧ e = .int .i64 e' ∧ i = .int .i64 ((n - g : Nat) : Int) ∧ Ext w3 wx)
  case atStart => exact ⟨Nat.le_refl _, 0, 0, .inl ⟨rfl, by rw [Nat.sub_self]; rfl, by decide⟩, rfl, rfl, by simp, Ext.refl _⟩
  case round =>
    obtain ⟨hg, s, e, H, rfl, rfl, hi, hx⟩ := hrel
    obtain ⟨k2, hk⟩ : ∃ k2, k2 = n - gk := ⟨_, rfl⟩
    rw [← hk] at H hi
    subst hi
    have XW := Lib.hid (X3.out.trans hx)
    rcases H.out with ⟨rfl, H1⟩ | ⟨rfl, rfl, H2, H3⟩
    rotate_left
    · have P := Lib.hid (fSum_at A n k l 0 12 wr (SX.out.ext hx) L.out H2 H3)
      clear H hk hg H2 H3 hx
      by_cases hkn : (k2 : Int) < n
      all_goals
        go_wp2_with fail
        refine P.out.mono ?_
        rintro e w4 ⟨rfl, hx4⟩
        go_wp2_with fail
        go_ret
        exact ⟨rfl, XW.out.trans hx4⟩
    clear H
    have H := Lib.hid H1
    clear H1
    by_cases hz : gk = 0
    · have hkn : ¬ (k2 : Int) < n := by omega
      obtain ⟨h1, h2⟩ := H.out
      have hkl : k2 = l.length := by have := HN.out; omega
      obtain ⟨e1, e2⟩ := sum_done (l := l) (by rw [← hkl, ← h1]; exact h2)
      rw [← hkl, ← h1] at e1
      have P := Lib.hid (fSum_at A n k l s 0 wr (SX.out.ext hx) L.out e1 e2)
      clear H h1 h2 hkl e1 e2 hz hg hk hx
      go_wp2_with fail
      refine P.out.mono ?_
      rintro e w4 ⟨rfl, hx4⟩
      go_wp2_with fail
      go_ret
      exact ⟨rfl, XW.out.trans hx4⟩
    · have hkn : (k2 : Int) < n := by omega
      obtain ⟨h1, h2⟩ := H.out
      have hkl : k2 < l.length := by have := HN.out; omega
      obtain ⟨g1, g2, g3⟩ := sum_step L.out hkl (by rw [← h1]; exact h2)
      rw [← h1] at g1 g2 g3
      obtain ⟨b1, o1, rfl, hb1, hc1⟩ := (SX.out.ext hx).cell (show k2 < n from by omega)
      have hc2 := hc1 k2 (by omega)
      have R := fAdd_any s (l.getD k2 0) g1 (getD_word L.out k2)
      rw [g2, g3] at R
      obtain ⟨xx, hxx⟩ : ∃ x, x = l.getD k2 0 := ⟨_, rfl⟩
      rw [← hxx] at hc2 R
      have HK := Lib.hid (And.intro hk (And.intro hg hz))
      have N : Hid (if sumL (l.take (k2 + 1)) < 18446744073709551616 then True else suN l = 0 ∧ suE l = 12) := by
        show if _ then _ else _
        split
        · trivial
        · rename_i hlt; exact sum_over L.out hlt
      have XH := Lib.hid hx
      by_cases hlt : sumL (l.take (k2 + 1)) < 18446744073709551616
      · rw [if_pos hlt, if_pos hlt] at R
        have RR := Lib.hid R
        have N2 := Lib.hid (show sumL (l.take (k2 + 1)) = sumL (l.take (n - (gk - 1))) ∧ sumL (l.take (k2 + 1)) < 18446744073709551616 from ⟨by rw [show n - (gk - 1) = k2 + 1 from by omega], hlt⟩)
        clear R hlt h1 h2 g1 g2 g3 hxx hc1 hb1 hkl hk hg hz H N hx
        go_wp2_with fail
        refine (RR.out _).mono ?_
        rintro e w4 ⟨rfl, hx4⟩
        go_wp2_with fail
        go_roundg (gk - 1)
        case measure => have := HK.out; omega
        case rel => exact ⟨by have := HK.out; omega, _, _, .inl ⟨rfl, N2⟩, rfl, rfl, num_eq (by have := HK.out; omega), XH.out.trans hx4⟩
      · rw [if_neg hlt, if_neg hlt] at R
        have RR := Lib.hid R
        have N2 := N.out
        rw [if_neg hlt] at N2
        have N3 := Lib.hid N2
        clear R hlt h1 h2 g1 g2 g3 hxx hc1 hb1 hkl hk hg hz H N N2 hx
        go_wp2_with fail
        refine (RR.out _).mono ?_
        rintro e w4 ⟨rfl, hx4⟩
        go_wp2_with fail
        go_roundg (gk - 1)
        case measure => have := HK.out; omega
        case rel => exact ⟨by have := HK.out; omega, _, _, .inr ⟨rfl, rfl, N3.out.1, N3.out.2⟩, rfl, rfl, num_eq (by have := HK.out; omega), XH.out.trans hx4⟩

theorem FixCapped_any (m : Int) (fm : Fits .u64 m) (a : Int) (fa : Fits .u64 a) (b : Int) (fb : Fits .u64 b) (c : Int) (fc : Fits .u64 c) (A : Option Addr) (n k : Nat) (l : List Int) (w : World) (hsl : Sl w 1 A n k (iv .u64 l)) (fl : ∀ x ∈ l, Fits .u64 x) :
    Calls Try.prog 8 #[.int .u64 m, .int .u64 a, .int .u64 b, .int .u64 c, .slice A n k] w fun r w' => r = .returned (.bool true) ∧ Ext w w' := by
  by_cases hn : (40 : Int) < n
  · exact FixCapped_long m a b c A n k l w hsl hn
  · by_cases hc : c = 0
    · subst hc
      exact FixCapped_zero m a b fm.u64 fa.u64 fb.u64 A n k l w hsl (by omega)
    · by_cases ho : a * b / c < 18446744073709551616
      · refine FixCapped_ok m a b c _ _ _ fm.u64 fa.u64 fb.u64 fc.u64 (by simpa using hc) rfl rfl rfl ?_ ?_ A n k l w hsl (fun x hx => (fl x hx).u64) (by omega)
        · unfold mdE; rw [if_neg hc, if_pos ho]
        · unfold mdN caN
          rw [if_neg hc, if_neg hc, if_pos ho]
          repeat' split
          all_goals omega
      · refine FixCapped_over m a b c _ _ _ fm.u64 fa.u64 fb.u64 fc.u64 (by simpa using hc) rfl rfl rfl ?_ ?_ A n k l w hsl (fun x hx => (fl x hx).u64) (by omega)
        · unfold mdE; rw [if_neg hc, if_neg ho]
        · unfold caN; rw [if_neg hc, if_pos (by have := fm.u64; omega)]
end Go.Proofs.Ytdckdefjhijihaa
