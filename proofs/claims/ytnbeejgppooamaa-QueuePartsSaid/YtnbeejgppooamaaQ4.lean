/- queues: sum, Live, Of, both sides. Conditions stand in each lemma. -/
import Derived.Test.YtnbeejgppooamaaQ3
set_option linter.unusedVariables false
set_option linter.unusedSimpArgs false
namespace Go.Proofs.Ytnbeejgppooamaa
open Go.RowKit Go.ChangeShapes Go.WideShapes Go.Deep Go.Joins

set_option maxRecDepth 100000 in
set_option maxHeartbeats 4000000 in
theorem qsum_any (A : Option Addr) (n c : Nat) (l : List (Int × Int × Int × Int × Int × Int × Int × Int)) (w : World) (h : Sl w 8 A n c (l.flatMap entC)) (hn : n ≤ 100000) (hf : ∀ x ∈ l, FitsQ x) :
    Calls Try.prog 43 #[.slice A n c] w fun e w' => e = .returned (.int .u64 (sumP l)) ∧ Ext w w' := by
  have C1 := Lib.hid (qfoldW_any A n c l w h hn hf)
  clear h hf
  go_enter Try.func43, Try.ntmps43
  go_wp2_with fail
  refine C1.out.mono ?_
  rintro e w1 ⟨rfl, hx⟩
  have HX := Lib.hid hx
  clear hx
  go_wp2
  go_ret
  exact ⟨rfl, HX.out⟩
theorem qlive_any (A : Option Addr) (n c : Nat) (l : List (Int × Int × Int × Int × Int × Int × Int × Int)) (ow v : Int) (w : World) (h : Sl w 8 A n c (l.flatMap entC)) (hn : n ≤ 100000) (hf : ∀ x ∈ l, FitsQ x) :
    Calls Try.prog 25 #[.slice A n c, .int .i64 ow, .int .i64 v] w fun e w' => e = .returned (.int .i64 ((liveQ l ow v : Nat) : Int)) ∧ Ext w w' := by
  have hmf : ∀ (fn : Fn) (first cap : Array Value) (w : World), (Instr.makeFunc fn first cap).run Try.prog w = .ok (.func fn first cap) w := fun _ _ _ _ => rfl
  have HX0 : Hid (Ext w ((w.alloc (.cells #[.int .i64 ow] 3)).alloc (.cells #[.int .i64 v] 3))) := Lib.hid (((Ext.refl w).alloc _).alloc _)
  have C1 := Lib.hid (qfoldI_any A n c l ow v w.heap.size (w.heap.size + 1) ((w.alloc (.cells #[.int .i64 ow] 3)).alloc (.cells #[.int .i64 v] 3)) (h.ext HX0.out) hn hf (by simp [go_sem]) (by simp [go_sem]))
  clear h hf
  go_enter Try.func25, Try.ntmps25
  go_wp2_with fail
  refine C1.out.mono ?_
  rintro e w1 ⟨rfl, hx⟩
  have HX := Lib.hid (HX0.out.trans hx)
  clear hx HX0
  go_wp2
  go_ret
  exact ⟨rfl, HX.out⟩
theorem qof_any (A : Option Addr) (n c : Nat) (l : List (Int × Int × Int × Int × Int × Int × Int × Int)) (ow : Int) (w : World) (h : Sl w 8 A n c (l.flatMap entC)) (hn : n ≤ 100000) (hf : ∀ x ∈ l, FitsQ x) :
    Calls Try.prog 22 #[.slice A n c, .int .i64 ow] w (RetEnt (ofQ l ow) w) := by
  have hmf : ∀ (fn : Fn) (first cap : Array Value) (w : World), (Instr.makeFunc fn first cap).run Try.prog w = .ok (.func fn first cap) w := fun _ _ _ _ => rfl
  have HX0 : Hid (Ext w (w.alloc (.cells #[.int .i64 ow] 3))) := Lib.hid ((Ext.refl w).alloc _)
  have C1 := Lib.hid (qfoldE_any A n c l ow w.heap.size (w.alloc (.cells #[.int .i64 ow] 3)) (h.ext HX0.out) hn hf (by simp [go_sem]))
  clear h hf
  go_enter Try.func22, Try.ntmps22
  go_wp2_with fail
  refine C1.out.mono ?_
  rintro e w1 ⟨A2, c2, rfl, h1, h2, hx⟩
  have E := Lib.hid (show RetEnt (ofQ l ow) w (.returned (.slice A2 (ofQ l ow).length c2)) w1 from RetEnt.mk (own_lower h2 (Ext.size HX0.out)) (HX0.out.trans hx))
  clear h1 h2 hx HX0
  go_wp2
  go_ret
  exact E.out
set_option maxRecDepth 100000 in
set_option maxHeartbeats 4000000 in
theorem rsum14_any (A : Option Addr) (n c : Nat) (l : List (Int × Int × Int × Int × Int × Int × Int × Int)) (w : World) (h : Sl w 8 A n c (l.flatMap entC)) (hn : n ≤ 100000) (hf : ∀ x ∈ l, FitsQ x) (u : Int) (f : Bool) (hu : u = if totB l ≤ 4611686018427387904 then totB l else 0) (hf2 : f = decide (totB l ≤ 4611686018427387904)) :
    Calls Try.prog 47 #[.slice A n c] w fun e w' => e = .returned (.tuple #[.int .u64 u, .bool f]) ∧ Ext w w' := by
  have hll := h.rlen entC_len (by decide)
  have HS := Lib.hid h
  have HF := Lib.hid hf
  have HLL := Lib.hid hll
  have hns := h.small
  have HU := Lib.hid (And.intro hu hf2)
  clear h hf hll hu hf2
  go_enter Try.func47, Try.ntmps47
  go_wp2
  go_loopg [4, 5] n (fun gh a i wx => gh ≤ n ∧ i = .int .i64 ((n - gh : Nat) : Int) ∧ (∃ s, a = .int .u64 s ∧ 0 ≤ s ∧ s ≤ 4611686018427387904 ∧ Hid (s = totB (l.take (n - gh)))) ∧ Hid (Ext w wx))
  case atStart => exact ⟨Nat.le_refl _, by simp, ⟨0, rfl, by omega, by omega, Lib.hid (by rw [Nat.sub_self]; rfl)⟩, Lib.hid (Ext.refl _)⟩
  case round =>
    obtain ⟨hg, hi, ⟨s, rfl, s0, s1, hs⟩, XR⟩ := hrel
    obtain ⟨k, hk⟩ : ∃ k, k = n - gk := ⟨_, rfl⟩
    rw [← hk] at hi hs
    subst hi
    by_cases hz : gk = 0
    · have hkn : ¬ (k : Int) < (n : Int) := by omega
      have hkl : l.take k = l := List.take_of_length_le (by have := HLL.out; omega)
      have HS2 := Lib.hid (show s = totB l from by rw [hs.out, hkl])
      have HT : Hid (totB l ≤ 4611686018427387904) := Lib.hid (by rw [← HS2.out]; exact s1)
      obtain rfl : u = s := by rw [HU.out.1, if_pos HT.out, HS2.out]
      obtain rfl : f = true := by rw [HU.out.2, decide_eq_true HT.out]
      clear hk hg hz hkl hs
      go_wp2
      go_ret2
      exact ⟨rfl, XR.out⟩
    · have hkn : (k : Int) < (n : Int) := by omega
      have hkl : k < l.length := by have := HLL.out; omega
      have HSr := Lib.hid (HS.out.ext XR.out)
      obtain ⟨b1, o1, rfl, hb1, hc_x⟩ := HSr.out.rec_ entC_len (show 0 < n from by omega)
      obtain ⟨xw, hl_x⟩ : ∃ x, l[k]? = some x := ⟨_, List.getElem?_eq_getElem (by omega)⟩
      have x_0 := hc_x k xw hl_x 0 _ rfl
      have x_1 := hc_x k xw hl_x 1 _ rfl
      have x_2 := hc_x k xw hl_x 2 _ rfl
      have x_3 := hc_x k xw hl_x 3 _ rfl
      have x_4 := hc_x k xw hl_x 4 _ rfl
      have x_5 := hc_x k xw hl_x 5 _ rfl
      have x_6 := hc_x k xw hl_x 6 _ rfl
      have x_7 := hc_x k xw hl_x 7 _ rfl
      obtain ⟨xo, xv, xs, xp, xf, xc, xi, xb⟩ := xw
      simp only at x_0 x_1 x_2 x_3 x_4 x_5 x_6 x_7
      rw [Nat.add_zero] at x_0
      rw [← Nat.add_assoc] at x_1 x_2 x_3 x_4 x_5 x_6 x_7
      clear hc_x
      have hfx := HF.out _ (List.mem_of_getElem? hl_x)
      have hba : Word xb := hfx.ba
      have hst : totB (l.take (k + 1)) = s + xb := by rw [hs.out]; exact totB_take hl_x
      have hle := totB_le HF.out (k + 1)
      have CA := Lib.hid (fun w => rAdd_any s xb ⟨s0, by omega⟩ hba w)
      obtain ⟨b0, b1'⟩ := hba
      have HT := Lib.hid (And.intro hst hle)
      have HK := Lib.hid (And.intro hk (And.intro hg hz))
      clear hk hg hz hkl hl_x hfx hst hle hs HSr
      by_cases h2 : s + xb < 18446744073709551616
      · rw [show addN s xb = s + xb from if_pos h2, show addE s xb = 0 from if_pos h2] at CA
        by_cases h3 : s + xb ≤ 4611686018427387904
        · have h4 : ¬ 4611686018427387904 < s + xb := by omega
          go_wp2_with fail
          (with_reducible refine (CA.out _).mono ?_)
          rintro e w_1 ⟨rfl, rfl⟩
          go_wp2_with fail
          go_roundg (gk - 1)
          case measure => have := HK.out; omega
          case rel => exact ⟨by have := HK.out; omega, num_eq (by have := HK.out; omega), ⟨s + xb, rfl, by omega, by omega, Lib.hid (by rw [show n - (gk - 1) = k + 1 from by have := HK.out; omega]; exact HT.out.1.symm)⟩, Lib.hid (by repeat (first | with_reducible exact XR.out | with_reducible refine Ext.drew ?_ | with_reducible refine Ext.drewN ?_ _ | with_reducible refine Ext.alloc ?_ _ | with_reducible refine Ext.setCell ?_ (by first | omega | (simp; done) | (simp; omega)) _))⟩
        · have h4 : 4611686018427387904 < s + xb := by omega
          obtain rfl : u = 0 := by rw [HU.out.1, if_neg (by have := HT.out; omega)]
          obtain rfl : f = false := by rw [HU.out.2, decide_eq_false (by have := HT.out; omega)]
          go_wp2_with fail
          (with_reducible refine (CA.out _).mono ?_)
          rintro e w_1 ⟨rfl, rfl⟩
          go_wp2_with fail
          go_ret2
          exact ⟨rfl, (by repeat (first | with_reducible exact XR.out | with_reducible refine Ext.drew ?_ | with_reducible refine Ext.drewN ?_ _ | with_reducible refine Ext.alloc ?_ _ | with_reducible refine Ext.setCell ?_ (by first | omega | (simp; done) | (simp; omega)) _))⟩
      · rw [show addN s xb = 0 from if_neg h2, show addE s xb = 12 from if_neg h2] at CA
        obtain rfl : u = 0 := by rw [HU.out.1, if_neg (by have := HT.out; omega)]
        obtain rfl : f = false := by rw [HU.out.2, decide_eq_false (by have := HT.out; omega)]
        go_wp2_with fail
        (with_reducible refine (CA.out _).mono ?_)
        rintro e w_1 ⟨rfl, rfl⟩
        go_wp2_with fail
        go_ret2
        exact ⟨rfl, (by repeat (first | with_reducible exact XR.out | with_reducible refine Ext.drew ?_ | with_reducible refine Ext.drewN ?_ _ | with_reducible refine Ext.alloc ?_ _ | with_reducible refine Ext.setCell ?_ (by first | omega | (simp; done) | (simp; omega)) _))⟩
set_option maxRecDepth 100000 in
set_option maxHeartbeats 4000000 in
theorem rlive14_any (A : Option Addr) (n c : Nat) (l : List (Int × Int × Int × Int × Int × Int × Int × Int)) (ow v : Int) (w : World) (h : Sl w 8 A n c (l.flatMap entC)) (hn : n ≤ 100000) (hf : ∀ x ∈ l, FitsQ x) :
    Calls Try.prog 26 #[.slice A n c, .int .i64 ow, .int .i64 v] w fun e w' => e = .returned (.int .i64 ((liveQ l ow v : Nat) : Int)) ∧ Ext w w' := by
  have hll := h.rlen entC_len (by decide)
  have HS := Lib.hid h
  have HLL := Lib.hid hll
  have hns := h.small
  clear h hf hll
  go_enter Try.func26, Try.ntmps26
  go_wp2
  go_loopg [7, 8] n (fun gh a i wx => gh ≤ n ∧ i = .int .i64 ((n - gh : Nat) : Int) ∧ (∃ s : Nat, a = .int .i64 (s : Int) ∧ s ≤ 100000 ∧ Hid (s = liveQ (l.take (n - gh)) ow v)) ∧ Hid (Ext w wx))
  case atStart => exact ⟨Nat.le_refl _, by simp, ⟨0, rfl, by omega, Lib.hid (by rw [Nat.sub_self]; rfl)⟩, Lib.hid (Ext.refl _)⟩
  case round =>
    obtain ⟨hg, hi, ⟨s, rfl, s1, hs⟩, XR⟩ := hrel
    obtain ⟨k, hk⟩ : ∃ k, k = n - gk := ⟨_, rfl⟩
    rw [← hk] at hi hs
    subst hi
    by_cases hz : gk = 0
    · have hkn : ¬ (k : Int) < (n : Int) := by omega
      have hkl : l.take k = l := List.take_of_length_le (by have := HLL.out; omega)
      have HS2 := Lib.hid (show s = liveQ l ow v from by rw [hs.out, hkl])
      clear hk hg hz hkl hs
      go_wp2
      go_ret
      exact ⟨ret_int (by rw [HS2.out]), XR.out⟩
    · have hkn : (k : Int) < (n : Int) := by omega
      have hkl : k < l.length := by have := HLL.out; omega
      have HSr := Lib.hid (HS.out.ext XR.out)
      obtain ⟨b1, o1, rfl, hb1, hc_x⟩ := HSr.out.rec_ entC_len (show 0 < n from by omega)
      obtain ⟨xw, hl_x⟩ : ∃ x, l[k]? = some x := ⟨_, List.getElem?_eq_getElem (by omega)⟩
      have x_0 := hc_x k xw hl_x 0 _ rfl
      have x_1 := hc_x k xw hl_x 1 _ rfl
      have x_2 := hc_x k xw hl_x 2 _ rfl
      have x_3 := hc_x k xw hl_x 3 _ rfl
      have x_4 := hc_x k xw hl_x 4 _ rfl
      have x_5 := hc_x k xw hl_x 5 _ rfl
      have x_6 := hc_x k xw hl_x 6 _ rfl
      have x_7 := hc_x k xw hl_x 7 _ rfl
      obtain ⟨xo, xv, xs, xp, xf, xc, xi, xb⟩ := xw
      simp only at x_0 x_1 x_2 x_3 x_4 x_5 x_6 x_7
      rw [Nat.add_zero] at x_0
      rw [← Nat.add_assoc] at x_1 x_2 x_3 x_4 x_5 x_6 x_7
      clear hc_x
      have hst : liveQ (l.take (k + 1)) ow v = s + if (xo == ow && xv == v) = true then 1 else 0 := by rw [hs.out]; exact liveQ_take hl_x
      have hle := liveQ_le (l.take (k + 1)) ow v
      rw [List.length_take] at hle
      have HT := Lib.hid (And.intro hst hle)
      have HK := Lib.hid (And.intro hk (And.intro hg hz))
      clear hk hg hz hkl hl_x hst hle hs HSr
      cases e1 : (xo == ow)
      · skip
        go_wp2_with fail
        go_roundg (gk - 1)
        case measure => have := HK.out; omega
        case rel => exact ⟨by have := HK.out; omega, num_eq (by have := HK.out; omega), ⟨s, rfl, by have h := HT.out; have := HK.out; (try simp [e1] at h); omega, Lib.hid (by rw [show n - (gk - 1) = k + 1 from by have := HK.out; omega, HT.out.1]; simp [e1])⟩, Lib.hid (by repeat (first | with_reducible exact XR.out | with_reducible refine Ext.drew ?_ | with_reducible refine Ext.drewN ?_ _ | with_reducible refine Ext.alloc ?_ _ | with_reducible refine Ext.setCell ?_ (by first | omega | (simp; done) | (simp; omega)) _))⟩
      · cases e2 : (xv == v)
        · skip
          go_wp2_with fail
          go_roundg (gk - 1)
          case measure => have := HK.out; omega
          case rel => exact ⟨by have := HK.out; omega, num_eq (by have := HK.out; omega), ⟨s, rfl, by have h := HT.out; have := HK.out; (try simp [e1, e2] at h); omega, Lib.hid (by rw [show n - (gk - 1) = k + 1 from by have := HK.out; omega, HT.out.1]; simp [e1, e2])⟩, Lib.hid (by repeat (first | with_reducible exact XR.out | with_reducible refine Ext.drew ?_ | with_reducible refine Ext.drewN ?_ _ | with_reducible refine Ext.alloc ?_ _ | with_reducible refine Ext.setCell ?_ (by first | omega | (simp; done) | (simp; omega)) _))⟩
        · skip
          go_wp2_with fail
          go_roundg (gk - 1)
          case measure => have := HK.out; omega
          case rel => exact ⟨by have := HK.out; omega, num_eq (by have := HK.out; omega), ⟨s + 1, num_eq (by push_cast; rfl), by have h := HT.out; have := HK.out; (try simp [e1, e2] at h); omega, Lib.hid (by rw [show n - (gk - 1) = k + 1 from by have := HK.out; omega, HT.out.1]; simp [e1, e2])⟩, Lib.hid (by repeat (first | with_reducible exact XR.out | with_reducible refine Ext.drew ?_ | with_reducible refine Ext.drewN ?_ _ | with_reducible refine Ext.alloc ?_ _ | with_reducible refine Ext.setCell ?_ (by first | omega | (simp; done) | (simp; omega)) _))⟩
set_option maxRecDepth 100000 in
set_option maxHeartbeats 4000000 in
theorem rof14_any (A : Option Addr) (n c : Nat) (l : List (Int × Int × Int × Int × Int × Int × Int × Int)) (ow : Int) (w : World) (h : Sl w 8 A n c (l.flatMap entC)) (hn : n ≤ 100000) (hf : ∀ x ∈ l, FitsQ x) :
    Calls Try.prog 24 #[.slice A n c, .int .i64 ow] w (RetEnt (ofQ l ow) w) := by
  obtain ⟨i0, hi0, hz0, hz1, hz2⟩ := ent_infoP
  have hll := h.rlen entC_len (by decide)
  have HS := Lib.hid h
  have HLL := Lib.hid hll
  have hns := h.small
  clear h hf hll
  go_enter Try.func24, Try.ntmps24
  go_wp2
  go_loopg [5, 6] n (fun gh a i wx => gh ≤ n ∧ i = .int .i64 ((n - gh : Nat) : Int) ∧ (∃ A2 c2, a = .slice A2 (ofQ (l.take (n - gh)) ow).length c2) ∧ Hid (OwnEnt wx w.heap.size a (ofQ (l.take (n - gh)) ow).length (ofQ (l.take (n - gh)) ow)) ∧ Hid (Ext w wx))
  case atStart => exact ⟨Nat.le_refl _, by simp, by rw [Nat.sub_self]; exact ⟨none, 0, rfl⟩, by rw [Nat.sub_self]; exact Lib.hid (OwnEnt.nil _ _), Lib.hid (Ext.refl _)⟩
  case round =>
    obtain ⟨hg, hi, ⟨A2, c2, rfl⟩, HO, XR⟩ := hrel
    obtain ⟨k, hk⟩ : ∃ k, k = n - gk := ⟨_, rfl⟩
    rw [← hk] at hi HO
    rw [← hk]
    obtain ⟨L, hL⟩ : ∃ L, L = ofQ (l.take k) ow := ⟨_, rfl⟩
    rw [← hL] at HO ⊢
    subst hi
    by_cases hz : gk = 0
    · have hkn : ¬ (k : Int) < (n : Int) := by omega
      have hkl : l.take k = l := List.take_of_length_le (by have := HLL.out; omega)
      rw [hkl] at hL
      have E := Lib.hid (show RetEnt (ofQ l ow) w (.returned (.slice A2 L.length c2)) wr from by rw [← hL]; exact RetEnt.mk HO.out XR.out)
      clear hk hg hz hkl hL HO
      go_wp2
      go_ret
      exact E.out
    · have hkn : (k : Int) < (n : Int) := by omega
      have hkl : k < l.length := by have := HLL.out; omega
      have HSr := Lib.hid (HS.out.ext XR.out)
      obtain ⟨b1, o1, rfl, hb1, hc_x⟩ := HSr.out.rec_ entC_len (show 0 < n from by omega)
      obtain ⟨xw, hl_x⟩ : ∃ x, l[k]? = some x := ⟨_, List.getElem?_eq_getElem (by omega)⟩
      have x_0 := hc_x k xw hl_x 0 _ rfl
      have x_1 := hc_x k xw hl_x 1 _ rfl
      have x_2 := hc_x k xw hl_x 2 _ rfl
      have x_3 := hc_x k xw hl_x 3 _ rfl
      have x_4 := hc_x k xw hl_x 4 _ rfl
      have x_5 := hc_x k xw hl_x 5 _ rfl
      have x_6 := hc_x k xw hl_x 6 _ rfl
      have x_7 := hc_x k xw hl_x 7 _ rfl
      obtain ⟨xo, xv, xs, xp, xf, xc, xi, xb⟩ := xw
      simp only at x_0 x_1 x_2 x_3 x_4 x_5 x_6 x_7
      rw [Nat.add_zero] at x_0
      rw [← Nat.add_assoc] at x_1 x_2 x_3 x_4 x_5 x_6 x_7
      clear hc_x
      have hst : ofQ (l.take (k + 1)) ow = L ++ if (xo == ow) = true then [(xo, xv, xs, xp, xf, xc, xi, xb)] else [] := by rw [hL]; exact ofQ_take hl_x
      have hLl : L.length ≤ 100000 := by rw [hL]; unfold ofQ; exact Nat.le_trans (List.length_filter_le _ _) (by rw [List.length_take]; omega)
      have HT := Lib.hid hst
      have HK := Lib.hid (And.intro hk (And.intro hg hz))
      have hwx := Ext.size XR.out
      clear hk hg hz hkl hl_x hst hL HSr
      cases e1 : (xo == ow)
      · have e2 : ofQ (l.take (k + 1)) ow = L := by rw [HT.out, e1]; simp
        have HE := Lib.hid e2
        clear e2
        go_wp2
        go_roundg (gk - 1)
        case measure => have := HK.out; omega
        case rel =>
          have e3 : n - (gk - 1) = k + 1 := by have := HK.out; omega
          exact ⟨by have := HK.out; omega, num_eq (by have := HK.out; omega), ⟨A2, c2, by rw [e3, HE.out]⟩, by rw [e3, HE.out]; exact HO, XR⟩
      · have e2 : ofQ (l.take (k + 1)) ow = L ++ [(xo, xv, xs, xp, xf, xc, xi, xb)] := by rw [HT.out, e1]; simp
        have HE := Lib.hid e2
        clear e2
        go_wp2_with (at_builtin; refine wpList_append_new _ rfl _ _ 22 rfl w.heap.size 27 i0 (.agg #[.int .i64 0, .int .i64 0, .int .i64 0, .int .i64 0, .int .i64 0, .int .i64 0, .int .u64 0, .int .u64 0]) 8 64 Try.underlying22 hi0 hz0 hz1 hz2 rfl (by decide) _ L.length (L.flatMap entC) (by rfl) HO.out #[.int .i64 xo, .int .i64 xv, .int .i64 xs, .int .i64 xp, .int .i64 xf, .int .i64 xc, .int .u64 xi, .int .u64 xb] 1 (by first | rfl | simp [Act.eval, go_sem]) rfl (by intro u hu; simp at hu; rcases hu with rfl | rfl | rfl | rfl | rfl | rfl | rfl | rfl <;> rfl) (by omega) (by decide) (by first | omega | (simp; omega)) ?_; intro v9 w9 hown9 hb9; have E0 := Lib.hid (And.intro hown9 hb9); clear hown9 hb9)
        obtain ⟨A9, c9, rfl, _, _⟩ := own_parts2 E0.out.1
        have E1 := Lib.hid (show OwnEnt w9 w.heap.size (.slice A9 (L.length + 1) c9) (ofQ (l.take (k + 1)) ow).length (ofQ (l.take (k + 1)) ow) from by
          rw [HE.out, List.length_append]
          unfold OwnEnt
          rw [List.flatMap_append]
          exact E0.out.1)
        have X9 := Lib.hid (Ext.below XR.out E0.out.2)
        go_wp2
        go_roundg (gk - 1)
        case measure => have := HK.out; omega
        case rel =>
          have e3 : n - (gk - 1) = k + 1 := by have := HK.out; omega
          refine ⟨by have := HK.out; omega, num_eq (by have := HK.out; omega), ⟨A9, c9, by rw [e3, HE.out]; simp⟩, ?_, X9⟩
          rw [e3]
          exact E1
end Go.Proofs.Ytnbeejgppooamaa
