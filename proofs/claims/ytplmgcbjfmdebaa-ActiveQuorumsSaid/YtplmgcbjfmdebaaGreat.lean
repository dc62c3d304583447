/- The kit's Great, digit, trim, LessGreat, SameGreat do on great numbers what their names say. -/
import Derived.Test.YtplmgcbjfmdebaaRows
import Derived.Test.YtplmgcbjfmdebaaFixSpec
import Derived.Test.YtplmgcbjfmdebaaMem
import Derived.Test.YtplmgcbjfmdebaaGreatMath
import Derived.WalkSpells
import Derived.WalkLawsBesides
import Derived.Lib.Hide
import Derived.Deep.QuietTactic
import Derived.Deep.LoopGhost
import Derived.Deep.DeepCutAuto
import Derived.Deep.CutBlock
import Derived.BigQuiet
set_option linter.unusedVariables false
set_option linter.unusedSimpArgs false
namespace Go.Proofs.Ytplmgcbjfmdebaa
open Go.RowKit Gr

theorem u64_info : (Try.prog.info? 36).map (fun i => (i.zero, i.size, i.bytes)) = some (some (.int .u64 0), 1, 8) := by kernel_rfl

/-- the slice is a great number -/
structure IsGr (w : World) (A : Option Addr) (n c : Nat) (l : List Int) (N : Int) : Prop where
  sl : Sl w 1 A n c (iv .u64 l)
  dig : Dig l
  nor : Nor l
  eq : val l = N
/-- a great number is returned; nothing that was there has turned -/
def GrRet (N : Int) (w : World) (e : Ending) (w' : World) : Prop := ∃ A n c l, e = .returned (.slice A n c) ∧ IsGr w' A n c l N ∧ Ext w w'

set_option maxHeartbeats 400000 in
theorem kGreat_any (n : Int) (hn : Word n) (w : World) :
    Calls Try.prog 34 #[.int .u64 n] w (GrRet n w) := by
  obtain ⟨i0, hi0, hz0, hz1, hz2⟩ := info_parts u64_info
  go_enter Try.func34, Try.ntmps34
  go_wp2
  go_loopg [0, 3] n.toNat (fun g x v wx => ∃ (x' : Int) (l : List Int), 0 ≤ x' ∧ x' < 18446744073709551616 ∧ Hid (g = x'.toNat ∧ GInv n l x') ∧ x = .int .u64 x' ∧ wx.ownsRow w.heap.size 36 1 v l.length (iv .u64 l) ∧ Ext w wx)
  case atStart => exact ⟨n, [], hn.1, hn.2, ⟨rfl, hn.2, Dig.nil, fun _ => nor_nil, by simp [val, pw]⟩, rfl, own_nil _ _ _ _, Ext.refl _⟩
  case round =>
    obtain ⟨x, l, x0, x1, H, rfl, hown, hx⟩ := hrel
    by_cases hz : 0 < x
    · have hs := hx.size
      have hlen : l.length < 1099511627776 := by have := cap_step hz H.out.2.cp; omega
      have hlen2 := Lib.hid hlen
      clear hlen
      go_wp2_with (at_builtin; refine wpList_append_new wr rfl _ _ 22 rfl _ 36 i0 (.int .u64 0) 1 8 Try.underlying22 hi0 hz0 hz1 hz2 rfl (by decide) _ _ _ (by rfl) hown #[.int .u64 (x % 65536)] 1 (by rfl) rfl (by intro u hu; simp at hu; subst hu; rfl) hlen2.out (by decide) hs ?_; intro v1 w1 hown1 hb1)
      go_roundg (x / 65536).toNat
      case measure => have := H.out.1; omega
      case rel => exact ⟨x / 65536, l ++ [x % 65536], by omega, by omega, ⟨rfl, H.out.2.step hz⟩, rfl, by rw [← iv_snoc, List.length_append]; exact hown1, hx.below hb1⟩
    · obtain ⟨h1, h2⟩ := H.out
      obtain rfl : x = 0 := by omega
      have h3 := h2.sum
      have h4 := h2.nor rfl
      have h5 := h2.dig
      obtain ⟨A, c, rfl, hsl⟩ := own_parts hown
      have h6 := Lib.hid (show GrRet n w (.returned (.slice A l.length c)) wr from ⟨A, _, c, l, rfl, ⟨hsl, h5, h4, by omega⟩, hx⟩)
      clear h1 h2 h3 h4 h5 H
      go_wp2
      go_ret
      exact h6.out

theorem kdigit_any (A : Option Addr) (n c : Nat) (l : List Int) (i : Nat) (w : World) (h : Sl w 1 A n c (iv .u64 l)) :
    Calls Try.prog 53 #[.slice A n c, .int .i64 i] w fun e w' => e = .returned (.int .u64 (l.getD i 0)) ∧ w = w' := by
  have hs := h.small
  have hl := h.ilen
  by_cases hi : i < n
  · obtain ⟨b, o, rfl, hb, hc⟩ := h.cell hi
    have hc1 := hc i hi
    obtain ⟨x, hx⟩ : ∃ x, x = l.getD i 0 := ⟨_, rfl⟩
    rw [← hx] at hc1 ⊢
    clear hc hx h hl
    go_enter Try.func53, Try.ntmps53
    go_wp2
    go_ret
    exact ⟨rfl, rfl⟩
  · have e : l.getD i 0 = 0 := by
      rw [List.getD_eq_getElem?_getD, List.getElem?_eq_none (by omega)]; rfl
    rw [e]
    clear e h hl
    go_enter Try.func53, Try.ntmps53
    go_wp2
    go_ret
    exact ⟨rfl, rfl⟩

/-- what trim leaves -/
def TrimRet (A : Option Addr) (c : Nat) (l : List Int) (w : World) (e : Ending) (w' : World) : Prop :=
  ∃ m, e = .returned (.slice A m c) ∧ m ≤ l.length ∧ Nor (l.take m) ∧ val (l.take m) = val l ∧ w = w'
set_option maxHeartbeats 400000 in
theorem ktrim_any (A : Option Addr) (n c : Nat) (l : List Int) (w : World) (h : Sl w 1 A n c (iv .u64 l)) :
    Calls Try.prog 54 #[.slice A n c] w (TrimRet A c l w) := by
  have hs := h.small
  have hl := h.ilen
  have hnc := h.2.1
  have hcm : c ≤ 9223372036854775807 := by have := h.2.2.1; simpa [maxLen] using this
  go_enter Try.func54, Try.ntmps54
  go_wp2
  go_loopg [3] n (fun g m wx => g ≤ n ∧ Hid (val (l.take g) = val l) ∧ m = .int .i64 g ∧ wx = w)
  case atStart => exact ⟨Nat.le_refl _, by show val (l.take n) = val l; rw [List.take_of_length_le (by omega)], rfl, rfl⟩
  case round =>
    obtain ⟨hg, hv, rfl, rfl⟩ := hrel
    rcases gk with _ | m
    · have H := Lib.hid (show TrimRet A c l wr (.returned (.slice A 0 c)) wr from ⟨0, rfl, by omega, by simpa using nor_nil, hv.out, rfl⟩)
      clear hv
      go_wp2
      go_ret
      exact H.out
    · obtain ⟨b, o, rfl, hb, hc⟩ := h.cell (show m < n from by omega)
      have hc1 := hc m (by omega)
      obtain ⟨x, hx⟩ : ∃ x, x = l.getD m 0 := ⟨_, rfl⟩
      rw [← hx] at hc1
      by_cases hz : x = 0
      · subst hz
        have hv2 := Lib.hid (show val (l.take m) = val l from (take_val (by omega) hx.symm).symm.trans hv.out)
        clear hv hc hx h hl
        go_wp2
        go_roundg m
        case measure => omega
        case rel => exact ⟨by omega, hv2, num_eq (by omega), rfl⟩
      · have hz' : (x == 0) = false := by simpa using hz
        have H := Lib.hid (show TrimRet (some ⟨b, o, none⟩) c l wr (.returned (.slice (some ⟨b, o, none⟩) (m + 1) c)) wr from ⟨m + 1, rfl, by omega, nor_take (by omega) (by rw [← hx]; exact hz), hv.out, rfl⟩)
        clear hv hc hx h hz hl
        go_wp2
        go_ret
        exact H.out
/-- trim, of a great number's digits -/
theorem trim_gr {w : World} {A : Option Addr} {n c : Nat} {l : List Int} {N : Int} (h : Sl w 1 A n c (iv .u64 l)) (hd : Dig l) (hv : val l = N) :
    Calls Try.prog 54 #[.slice A n c] w (GrRet N w) := by
  refine (ktrim_any A n c l w h).mono fun e w' ⟨m, he, hm, hn, hv2, hw⟩ => ?_
  subst hw
  have hl := h.ilen
  exact ⟨A, m, c, l.take m, he, ⟨h.itake (by omega), hd.take m, hn, hv2.trans hv⟩, Ext.refl _⟩

set_option maxHeartbeats 400000 in
theorem kLessGreat_any (A B : Option Addr) (n m c d : Nat) (a b : List Int) (N M : Int) (w : World) (ha : IsGr w A n c a N) (hb : IsGr w B m d b M) :
    Calls Try.prog 35 #[.slice A n c, .slice B m d] w fun e w' => e = .returned (.bool (decide (N < M))) ∧ Drw w w' := by
  obtain ⟨sa, da, na, ea⟩ := ha
  obtain ⟨sb, db, nb, eb⟩ := hb
  have hsa := sa.small
  have hsb := sb.small
  have hla := sa.ilen
  have hlb := sb.ilen
  obtain ⟨V, hV⟩ : ∃ V, V = decide (N < M) := ⟨_, rfl⟩
  rw [← hV]
  have HV := Lib.hid hV
  clear hV
  by_cases hl : n = m
  · subst hl
    go_enter Try.func35, Try.ntmps35
    go_wp2
    go_loopg [5] n (fun g i wx => g ≤ n ∧ Hid (a.drop g = b.drop g) ∧ Hid (i = .int .i64 ((g : Int) - 1)) ∧ Drw w wx)
    case atStart => exact ⟨Nat.le_refl _, by show a.drop n = b.drop n; rw [List.drop_eq_nil_of_le (by omega), List.drop_eq_nil_of_le (by omega)], rfl, 0, rfl⟩
    case round =>
      obtain ⟨hg, hd, hi, hw⟩ := hrel
      rcases gk with _ | i
      · have h5 : u5 = .int .i64 (-1) := hi.out.trans (num_eq (by simp))
        subst h5
        have e : V = false := by
          rw [HV.out]
          have h1 : a = b := by simpa using hd.out
          subst h1
          have : N = M := ea.symm.trans eb
          subst this
          simp
        subst e
        clear hi hd
        have HW := Lib.hid hw
        clear hw
        go_wp2
        go_ret
        exact ⟨rfl, HW.out⟩
      · obtain rfl : u5 = .int .i64 (i : Int) := by rw [hi.out]; exact num_eq (by omega)
        clear hi
        obtain ⟨b1, o1, rfl, hb1, hc1⟩ := sa.cell (show i < n from by omega)
        obtain ⟨b2, o2, rfl, hb2, hc2⟩ := sb.cell (show i < n from by omega)
        obtain ⟨nq, rfl⟩ := hw
        have g1 := hc1 i (by omega)
        have g2 := hc2 i (by omega)
        obtain ⟨x, hx⟩ : ∃ x, x = a.getD i 0 := ⟨_, rfl⟩
        obtain ⟨y, hy⟩ : ∃ y, y = b.getD i 0 := ⟨_, rfl⟩
        rw [← hx] at g1
        rw [← hy] at g2
        have i0 : (i : Int) < n := by omega
        by_cases hxy : x = y
        · have hd2 := Lib.hid (drop_eq (by omega) i (by omega) hd.out (by rw [← hx, ← hy, hxy]))
          subst hxy
          clear hc1 hc2 hx hy hd sa sb da db na nb ea eb hla hlb
          go_wp2
          go_quiet (fail)
          go_wp2
          go_roundg i
          case measure => omega
          case rel => exact ⟨by omega, hd2, rfl, _, rfl⟩
        · have hne : (x == y) = false := by simpa using hxy
          have e : V = decide (x < y) := by
            rw [HV.out, Bool.eq_iff_iff, decide_eq_true_eq, decide_eq_true_eq, hx, hy, ← ea, ← eb]
            constructor
            · intro h
              rcases Int.lt_or_gt_of_ne (by rw [← hx, ← hy]; exact hxy : a.getD i 0 ≠ b.getD i 0) with h1 | h1
              · exact h1
              · have := less_at db da (by omega) i (by omega) hd.out.symm h1
                omega
            · exact less_at da db (by omega) i (by omega) hd.out
          have E := Lib.hid e
          clear hc1 hc2 hx hy hd sa sb da db na nb ea eb hla hlb e hxy
          go_wp2
          go_quiet (fail)
          go_wp2
          go_quiet (fail)
          go_wp2
          go_ret
          exact ⟨ret_bool E.out.symm, by repeat (first | exact Drw.refl _ | refine Drw.drewN ?_ _ | exact ⟨_, rfl⟩)⟩
  · have hne : ((n : Int) == m) = false := by simp; omega
    have e : V = decide (n < m) := by
      rw [HV.out, Bool.eq_iff_iff, decide_eq_true_eq, decide_eq_true_eq, ← ea, ← eb]
      constructor
      · intro h
        rcases Nat.lt_or_gt_of_ne hl with h1 | h1
        · omega
        · have := less_len db da na (by omega)
          omega
      · intro h
        exact less_len da db nb (by omega)
    have E := Lib.hid e
    clear sa sb da db na nb ea eb hla hlb e hl
    go_enter Try.func35, Try.ntmps35
    go_wp2
    go_ret
    exact ⟨ret_bool E.out.symm, Drw.refl _⟩
theorem IsGr.drw {w w' : World} {A : Option Addr} {n c : Nat} {l : List Int} {N : Int} (h : IsGr w A n c l N) (hd : Drw w w') : IsGr w' A n c l N := ⟨h.sl.ext hd.ext, h.dig, h.nor, h.eq⟩
theorem IsGr.ext {w w' : World} {A : Option Addr} {n c : Nat} {l : List Int} {N : Int} (h : IsGr w A n c l N) (hd : Ext w w') : IsGr w' A n c l N := ⟨h.sl.ext hd, h.dig, h.nor, h.eq⟩
end Go.Proofs.Ytplmgcbjfmdebaa
