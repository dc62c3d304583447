/- hops: which are ripe: what is told. Conditions stand in each lemma. -/
import Derived.Test.YtjdpgapmdmpjjaaHop9
import Derived.Test.YtjdpgapmdmpjjaaAppTwo
import Derived.Test.YtjdpgapmdmpjjaaSearch
set_option linter.unusedVariables false
set_option linter.unusedSimpArgs false
namespace Go.Proofs.Ytjdpgapmdmpjjaa
open Go.RowKit Go.ChangeShapes Go.WideShapes Go.Deep Go.Joins

theorem split_false {α : Type} {l : List α} {q : α → Bool} (h : ∀ x ∈ l, q x = false) : l.filter q = [] ∧ l.filter (fun x => !q x) = l := by
  refine ⟨List.filter_eq_nil_iff.2 (fun x hx => by rw [h x hx]; simp), List.filter_eq_self.2 (fun x hx => by rw [h x hx]; rfl)⟩
/-- a list of which what holds stands ahead of what does not, split -/
theorem split_mono {α : Type} (q : α → Bool) : ∀ (l : List α), (∀ (i j : Nat) x y, i ≤ j → l[i]? = some x → l[j]? = some y → q y = true → q x = true) →
    ∃ m, m ≤ l.length ∧ l.filter q = l.take m ∧ l.filter (fun x => !q x) = l.drop m ∧ ∀ (k : Nat) x, l[k]? = some x → q x = decide (k < m)
  | [], _ => ⟨0, Nat.le_refl _, rfl, rfl, fun k x h => by simp at h⟩
  | a :: l, h => by
    cases ha : q a with
    | false =>
      have hall : ∀ x ∈ a :: l, q x = false := by
        intro x hx
        obtain ⟨j, hj⟩ := List.getElem?_of_mem hx
        cases hq : q x with
        | false => rfl
        | true => have := h 0 j a x (Nat.zero_le _) rfl hj hq; rw [ha] at this; cases this
      obtain ⟨h1, h2⟩ := split_false hall
      refine ⟨0, Nat.zero_le _, h1, h2, fun k x hk => ?_⟩
      rw [hall x (List.mem_of_getElem? hk)]
      simp
    | true =>
      obtain ⟨m, h1, h2, h3, h4⟩ := split_mono q l (fun i j x y hij hx hy => h (i + 1) (j + 1) x y (by omega) (by simpa using hx) (by simpa using hy))
      refine ⟨m + 1, by simpa using h1, by rw [List.filter_cons_of_pos ha, h2]; rfl, by rw [List.filter_cons_of_neg (by rw [ha]; simp), h3]; rfl, fun k x hk => ?_⟩
      cases k with
      | zero => simp at hk; subst hk; rw [ha]; simp
      | succ k => rw [h4 k x (by simpa using hk)]; simp
theorem chkH_sorted {l : List (Int × Int × Int × Int)} (h : (chkH l).1 = 0) : ∀ (i j : Nat) (x y : (Int × Int × Int × Int)), i ≤ j → l[i]? = some x → l[j]? = some y → x.2.2.2 ≤ y.2.2.2 := by
  obtain ⟨_, _, hz⟩ := chkH_zero h
  intro i j
  induction j with
  | zero => intro x y hij hx hy; obtain rfl : i = 0 := by omega
            rw [hx] at hy; obtain rfl := Option.some.inj hy; exact Int.le_refl _
  | succ j ih =>
    intro x y hij hx hy
    by_cases e : i = j + 1
    · subst e; rw [hx] at hy; obtain rfl := Option.some.inj hy; exact Int.le_refl _
    · have hj : j < l.length := by have := (List.getElem?_eq_some_iff.1 hy).1; omega
      have hz1 := hz (j + 1) y hy
      have hm := mayV_may hz1
      rw [mayV_next hm (List.getElem?_eq_getElem hj)] at hz1
      have h2 : ¬ y.2.2.2 < l[j].2.2.2 := by intro h2; rw [if_pos h2] at hz1; cases hz1
      have := ih x l[j] (by omega) hx (List.getElem?_eq_getElem hj)
      omega
theorem chkH_may {l : List (Int × Int × Int × Int)} (h : (chkH l).1 = 0) : ∀ x ∈ l, MayH x := by
  obtain ⟨_, _, hz⟩ := chkH_zero h
  intro x hx
  obtain ⟨j, hj⟩ := List.getElem?_of_mem hx
  exact mayV_may (hz j x hj)
theorem ripV_ok {l : List (Int × Int × Int × Int)} {hh u : Int} (h : ripE l hh u = 0) : ripV l hh u = (l.filter (fun x => decide (x.2.2.2 + u ≤ hh)), l.filter (fun x => !decide (x.2.2.2 + u ≤ hh)), 0) := if_pos h
theorem hClone_n (A : Option Addr) (n c : Nat) (l : List (Int × Int × Int × Int)) (w : World) (h : Sl w 4 A n c (l.flatMap hopC)) (hn : n < 1099511627776) (hnil : A = none → c = 0) (hl : l.length = n) :
    Calls Try.prog 93 #[.slice A n c] w fun e w' => ∃ A' c', e = .returned (.slice A' n c') ∧ (A' = none → c' = 0) ∧ OwnHop w' w.heap.size (.slice A' n c') n l ∧ Ext w w' := by
  subst hl
  exact hClone_any A c l w h hn hnil
theorem Sl.hdrop {w : World} {A : Option Addr} {n c k : Nat} {l : List (Int × Int × Int × Int)} (h : Sl w 4 A n c (l.flatMap hopC)) (hk : k ≤ n) : Sl w 4 (if c = k then A else A.map (·.add (k * 4))) (n - k) (c - k) ((l.drop k).flatMap hopC) := by
  have e : l = l.take k ++ l.drop k := (List.take_append_drop k l).symm
  have hl := h.rlen hopC_len (by decide)
  have h1 : (l.flatMap hopC).drop (k * 4) = (l.drop k).flatMap hopC := by
    conv => lhs; rw [e, List.flatMap_append]
    rw [List.drop_append_of_le_length (by rw [flat_len hopC_len, List.length_take]; omega), List.drop_eq_nil_of_le (by rw [flat_len hopC_len, List.length_take]; omega), List.nil_append]
  rw [← h1]
  exact Sl.drop h hk
set_option maxRecDepth 100000 in
set_option maxHeartbeats 4000000 in
theorem rRipe15_ok (A : Option Addr) (n c : Nat) (l : List (Int × Int × Int × Int)) (hh u f2 : Int) (w : World) (h : Sl w 4 A n c (l.flatMap hopC)) (hn : n < 1099511627776) (hw : ∀ x ∈ l, FitsH x) (hf : (0, f2) = chkH l) (h4 : ¬ hh < 1) (h5 : ¬ hh > 4294967296) (h6 : 1 ≤ u ∧ u ≤ 1048576) :
    Calls Try.prog 26 #[.slice A n c, .int .i64 hh, .int .i64 u] w (RetHop2 (l.filter (fun x => decide (x.2.2.2 + u ≤ hh))) (l.filter (fun x => !decide (x.2.2.2 + u ≤ hh))) 0 w) := by
  have s1 := h.small
  have hl := h.rlen hopC_len (by decide)
  have hm := chkH_may (l := l) (by rw [← hf])
  have HM : Hid (∀ (k : Nat) (x0 x1 x2 x3 : Int), l[k]? = some (x0, x1, x2, x3) → IntKind.i64.wrap (x3 + u) = x3 + u) := Lib.hid (fun k x0 x1 x2 x3 hk => by
    have h1 := (hm _ (List.mem_of_getElem? hk)).2.2.2.2
    dsimp only at h1
    exact IntWalk.i64_in _ (by omega))
  have HB : Hid (true = decide (1 ≤ u ∧ u ≤ 1048576)) := Lib.hid (decide_eq_true h6).symm
  have HL := Lib.hid hl
  have HS := Lib.hid h
  have HS0 := Lib.hid h
  have HW := Lib.hid hw
  have HF := Lib.hid hf
  obtain ⟨i0, hi0, hz0, hz1, hz2⟩ := info_parts hop_info
  clear h hw hf hm hl
  go_enter Try.func26, Try.ntmps26
  go_wp2_with fail
  (with_reducible refine (rCheck15_ev A n c l 0 f2 _ (HS.out.ext (by repeat (first | with_reducible exact Ext.refl _ | with_reducible refine Ext.drew ?_ | with_reducible refine Ext.drewN ?_ _ | with_reducible refine Ext.alloc ?_ _ | with_reducible refine Ext.setCell ?_ (by first | omega | (simp; done) | (simp; omega)) _))) (fits_t HW.out) HF.out).mono ?_)
  rintro e w1 ⟨rfl, hx1⟩
  have z1 := hx1.size
  try simp at z1
  replace HS := Lib.hid (HS.out.ext (Ext.trans (by repeat (first | with_reducible exact Ext.refl _ | with_reducible refine Ext.drew ?_ | with_reducible refine Ext.drewN ?_ _ | with_reducible refine Ext.alloc ?_ _ | with_reducible refine Ext.setCell ?_ (by first | omega | (simp; done) | (simp; omega)) _)) hx1))
  have X1 : Hid (Ext w w1) := Lib.hid (Ext.trans (by repeat (first | with_reducible exact Ext.refl w | with_reducible refine Ext.drew ?_ | with_reducible refine Ext.drewN ?_ _ | with_reducible refine Ext.alloc ?_ _ | with_reducible refine Ext.setCell ?_ (by first | omega | (simp; done) | (simp; omega)) _)) hx1)
  clear hx1 z1
  go_wp2_with fail
  (with_reducible refine (rTime15_any u true _ HB.out).mono ?_)
  rintro e w2 ⟨rfl, hx2⟩
  have z2 := hx2.size
  try simp at z2
  replace HS := Lib.hid (HS.out.ext (Ext.trans (by repeat (first | with_reducible exact Ext.refl _ | with_reducible refine Ext.drew ?_ | with_reducible refine Ext.drewN ?_ _ | with_reducible refine Ext.alloc ?_ _ | with_reducible refine Ext.setCell ?_ (by first | omega | (simp; done) | (simp; omega)) _)) hx2))
  have X2 : Hid (Ext w w2) := Lib.hid (Ext.trans (by repeat (first | with_reducible exact X1.out | with_reducible refine Ext.drew ?_ | with_reducible refine Ext.drewN ?_ _ | with_reducible refine Ext.alloc ?_ _ | with_reducible refine Ext.setCell ?_ (by first | omega | (simp; done) | (simp; omega)) _)) hx2)
  clear X1 hx2 z2
  go_wp2_with fail
  go_loopg [11, 12, 13] n (fun gh q1 q2 i wx => gh ≤ n ∧ i = .int .i64 ((n - gh : Nat) : Int) ∧ Hid (OwnHop wx w.heap.size q1 ((l.take (n - gh)).filter (fun x : (Int × Int × Int × Int) => decide (x.2.2.2 + u ≤ hh))).length ((l.take (n - gh)).filter (fun x : (Int × Int × Int × Int) => decide (x.2.2.2 + u ≤ hh)))) ∧ Hid (OwnHop wx w.heap.size q2 ((l.take (n - gh)).filter (fun x : (Int × Int × Int × Int) => !decide (x.2.2.2 + u ≤ hh))).length ((l.take (n - gh)).filter (fun x : (Int × Int × Int × Int) => !decide (x.2.2.2 + u ≤ hh)))) ∧ Hid (Apart q1 q2) ∧ Hid (Ext w wx))
  case atStart => exact ⟨Nat.le_refl _, by simp, Lib.hid (by rw [Nat.sub_self]; exact OwnHop.nil _ _), Lib.hid (by rw [Nat.sub_self]; exact OwnHop.nil _ _), Lib.hid (Apart.nil _), Lib.hid (by exact (by repeat (first | with_reducible exact X2.out | with_reducible refine Ext.drew ?_ | with_reducible refine Ext.drewN ?_ _ | with_reducible refine Ext.alloc ?_ _ | with_reducible refine Ext.setCell ?_ (by first | omega | (simp; done) | (simp; omega)) _)))⟩
  case round =>
    obtain ⟨hg, hi, ho1, ho2, hap, XR⟩ := hrel
    obtain ⟨k, hk⟩ : ∃ k, k = n - gk := ⟨_, rfl⟩
    rw [← hk] at hi ho1 ho2
    subst hi
    by_cases hz : gk = 0
    · have hkn : ¬ (k : Int) < n := by omega
      have hkl : l.take k = l := List.take_of_length_le (by have := HL.out; omega)
      rw [hkl] at ho1 ho2
      clear hk hg hz hkl HS
      obtain ⟨A1, c1, rfl, hA1, _⟩ := own_parts2 ho1.out
      obtain ⟨A2, c2, rfl, hA2, _⟩ := own_parts2 ho2.out
      go_wp2_with fail
      refine bodyPost_ret (v := .tuple #[.slice A1 _ c1, .slice A2 _ c2, .int .i64 0]) (by simp [results, Try.results26]; try rfl) rfl ⟨A1, c1, A2, c2, rfl, hA1, hA2, ho1.out, ho2.out, (fun b o s b' o' s' e1 e2 => by subst e1; subst e2; exact Apart.some_ hap.out), XR.out⟩
    · have hkn : (k : Int) < n := by omega
      have hk1 : k < l.length := by have := HL.out; omega
      have hrm := Ext.size XR.out
      obtain ⟨b1, o1, rfl, hb1, hc1⟩ := HS0.out.rec_ hopC_len (show 0 < n from by omega)
      obtain ⟨xv, hxx⟩ : ∃ x, x = l[k] := ⟨_, rfl⟩
      have hlk : l[k]? = some xv := by rw [hxx]; exact List.getElem?_eq_getElem hk1
      have htk := hopC_take hlk
      have hlen1 : ((l.take k).filter (fun x : (Int × Int × Int × Int) => decide (x.2.2.2 + u ≤ hh))).length < 1099511627776 := by have := List.length_filter_le (fun x : (Int × Int × Int × Int) => decide (x.2.2.2 + u ≤ hh)) (l.take k); rw [List.length_take] at this; omega
      have hlen2 : ((l.take k).filter (fun x : (Int × Int × Int × Int) => !decide (x.2.2.2 + u ≤ hh))).length < 1099511627776 := by have := List.length_filter_le (fun x : (Int × Int × Int × Int) => !decide (x.2.2.2 + u ≤ hh)) (l.take k); rw [List.length_take] at this; omega
      have x_0 := XR.out.has (hc1 k xv hlk 0 _ rfl)
      have x_1 := XR.out.has (hc1 k xv hlk 1 _ rfl)
      have x_2 := XR.out.has (hc1 k xv hlk 2 _ rfl)
      have x_3 := XR.out.has (hc1 k xv hlk 3 _ rfl)
      obtain ⟨x0, x1, x2, x3⟩ := xv
      have hwr1 := HM.out k x0 x1 x2 x3 hlk
      simp only at x_0 x_1 x_2 x_3
      rw [Nat.add_zero] at x_0
      rw [← Nat.add_assoc] at x_1 x_2 x_3
      obtain ⟨y, hy⟩ : ∃ y, y = x3 + u := ⟨_, rfl⟩
      have hwr : IntKind.i64.wrap (x3 + u) = y := by rw [hy]; exact hwr1
      have hwr2 : Go.RowKit.wrap64 (x3 + u) = y := by rw [← IntWalk.i64_left]; exact hwr
      clear hwr1
      have HK := Lib.hid (And.intro hk (And.intro hg hz))
      have HLN1 := Lib.hid hlen1
      have HLN2 := Lib.hid hlen2
      clear HS hk hg hz hc1 hxx hk1 hlk hlen1 hlen2
      by_cases hE : y ≤ hh
  
      · have hT1 : (l.take (k + 1)).filter (fun x : (Int × Int × Int × Int) => decide (x.2.2.2 + u ≤ hh)) = (l.take k).filter (fun x : (Int × Int × Int × Int) => decide (x.2.2.2 + u ≤ hh)) ++ [(x0, x1, x2, x3)] := by rw [htk, List.filter_append, List.filter_cons]; dsimp only; rw [← hy, decide_eq_true hE]; rfl
        have hT2 : (l.take (k + 1)).filter (fun x : (Int × Int × Int × Int) => !decide (x.2.2.2 + u ≤ hh)) = (l.take k).filter (fun x : (Int × Int × Int × Int) => !decide (x.2.2.2 + u ≤ hh)) ++ [] := by rw [htk, List.filter_append, List.filter_cons]; dsimp only; rw [← hy, decide_eq_true hE]; rfl
        have HT := Lib.hid (And.intro hT1 hT2)
        have HAP := Lib.hid (show Apart u11 u12 from hap.out)
        have hsz := Ext.size XR.out
        clear hT1 hT2 hy hap htk
        go_wp2_with (at_builtin; refine wpList_append_two wr rfl _ _ 22 rfl w.heap.size 24 i0 (.agg #[.int .i64 0, .int .i64 0, .int .i64 0, .int .i64 0]) 4 32 Try.underlying22 hi0 hz0 hz1 hz2 rfl (by decide) u11 _ _ (by rfl) ho1.out u12 _ _ _ _ ho2.out HAP.out #[.int .i64 x0, .int .i64 x1, .int .i64 x2, .int .i64 x3] 1 (by first | rfl | (simp [Act.eval]; done) | (simp [Act.eval, go_sem]; done)) rfl (by intro u hu; simp at hu; rcases hu with rfl | rfl | rfl | rfl <;> rfl) HLN1.out (by decide) (by first | omega | (simp; omega)) ?_; intro v1 w1 hown1 hown2 hap1 hb1)
        go_roundg (gk - 1)
        case measure => have := HK.out; omega
        case rel =>
          refine ⟨by have := HK.out; omega, num_eq (by have := HK.out; omega), ?_, ?_, Lib.hid (hap1), Lib.hid (Below.trans XR.out hb1)⟩
          · rw [show n - (gk - 1) = k + 1 from by have := HK.out; omega, HT.out.1]
            refine Lib.hid ?_
            unfold OwnHop
            rw [List.flatMap_append, List.length_append]
            first | exact hown1 | (simpa using hown2)
          · rw [show n - (gk - 1) = k + 1 from by have := HK.out; omega, HT.out.2]
            refine Lib.hid ?_
            unfold OwnHop
            rw [List.flatMap_append, List.length_append]
            first | exact hown1 | (simpa using hown2)
      · have hT1 : (l.take (k + 1)).filter (fun x : (Int × Int × Int × Int) => decide (x.2.2.2 + u ≤ hh)) = (l.take k).filter (fun x : (Int × Int × Int × Int) => decide (x.2.2.2 + u ≤ hh)) ++ [] := by rw [htk, List.filter_append, List.filter_cons]; dsimp only; rw [← hy, decide_eq_false hE]; rfl
        have hT2 : (l.take (k + 1)).filter (fun x : (Int × Int × Int × Int) => !decide (x.2.2.2 + u ≤ hh)) = (l.take k).filter (fun x : (Int × Int × Int × Int) => !decide (x.2.2.2 + u ≤ hh)) ++ [(x0, x1, x2, x3)] := by rw [htk, List.filter_append, List.filter_cons]; dsimp only; rw [← hy, decide_eq_false hE]; rfl
        have HT := Lib.hid (And.intro hT1 hT2)
        have HAP := Lib.hid (show Apart u12 u11 from hap.out.symm)
        have hsz := Ext.size XR.out
        clear hT1 hT2 hy hap htk
        go_wp2_with (at_builtin; refine wpList_append_two wr rfl _ _ 22 rfl w.heap.size 24 i0 (.agg #[.int .i64 0, .int .i64 0, .int .i64 0, .int .i64 0]) 4 32 Try.underlying22 hi0 hz0 hz1 hz2 rfl (by decide) u12 _ _ (by rfl) ho2.out u11 _ _ _ _ ho1.out HAP.out #[.int .i64 x0, .int .i64 x1, .int .i64 x2, .int .i64 x3] 1 (by first | rfl | (simp [Act.eval]; done) | (simp [Act.eval, go_sem]; done)) rfl (by intro u hu; simp at hu; rcases hu with rfl | rfl | rfl | rfl <;> rfl) HLN2.out (by decide) (by first | omega | (simp; omega)) ?_; intro v1 w1 hown1 hown2 hap1 hb1)
        go_roundg (gk - 1)
        case measure => have := HK.out; omega
        case rel =>
          refine ⟨by have := HK.out; omega, num_eq (by have := HK.out; omega), ?_, ?_, Lib.hid (hap1.symm), Lib.hid (Below.trans XR.out hb1)⟩
          · rw [show n - (gk - 1) = k + 1 from by have := HK.out; omega, HT.out.1]
            refine Lib.hid ?_
            unfold OwnHop
            rw [List.flatMap_append, List.length_append]
            first | exact hown1 | (simpa using hown2)
          · rw [show n - (gk - 1) = k + 1 from by have := HK.out; omega, HT.out.2]
            refine Lib.hid ?_
            unfold OwnHop
            rw [List.flatMap_append, List.length_append]
            first | exact hown1 | (simpa using hown2)
theorem rRipe15_any (A : Option Addr) (n c : Nat) (l : List (Int × Int × Int × Int)) (hh u : Int) (w : World) (h : Sl w 4 A n c (l.flatMap hopC)) (hn : n < 1099511627776) (hw : ∀ x ∈ l, FitsH x) :
    Calls Try.prog 26 #[.slice A n c, .int .i64 hh, .int .i64 u] w (RetHop2 (ripV l hh u).1 (ripV l hh u).2.1 (ripV l hh u).2.2 w) := by
  obtain ⟨⟨f1, f2⟩, hf⟩ : ∃ F, F = chkH l := ⟨_, rfl⟩
  have hE : ripE l hh u = if f1 ≠ 0 then f1 else if hh < 1 ∨ hh > 4294967296 ∨ ¬ (1 ≤ u ∧ u ≤ 1048576) then 3 else 0 := by
    unfold ripE
    rw [← hf]
  by_cases hc : f1 = 0
  · by_cases h4 : hh < 1
    · rw [ripV_no (e := 3) (by rw [hE, if_neg (by simpa using hc), if_pos (Or.inl h4)]) (by decide)]
      exact rRipe15_lo A n c l hh u f1 f2 w h hw hf hc h4
    by_cases h5 : hh > 4294967296
    · rw [ripV_no (e := 3) (by rw [hE, if_neg (by simpa using hc), if_pos (Or.inr (Or.inl h5))]) (by decide)]
      exact rRipe15_hi A n c l hh u f1 f2 w h hw hf hc h4 h5
    by_cases h6 : 1 ≤ u ∧ u ≤ 1048576
    · rw [ripV_ok (by rw [hE, if_neg (by simpa using hc), if_neg (by intro h7; rcases h7 with h7 | h7 | h7; exact h4 h7; exact h5 h7; exact h7 h6)])]
      subst hc
      exact rRipe15_ok A n c l hh u f2 w h hn hw hf h4 h5 h6
    · rw [ripV_no (e := 3) (by rw [hE, if_neg (by simpa using hc), if_pos (Or.inr (Or.inr h6))]) (by decide)]
      exact rRipe15_tm A n c l hh u f1 f2 w h hw hf hc h4 h5 h6
  · rw [ripV_no (e := f1) (by rw [hE, if_pos hc]) hc]
    exact rRipe15_chk A n c l hh u f1 f2 w h hw hf hc
set_option maxRecDepth 100000 in
set_option maxHeartbeats 4000000 in
theorem hopRipe_ok (A : Option Addr) (n c m : Nat) (l : List (Int × Int × Int × Int)) (hh u f2 : Int) (w : World) (h : Sl w 4 A n c (l.flatMap hopC)) (hn : n < 1099511627776) (hw : ∀ x ∈ l, FitsH x) (hf : (0, f2) = chkH l) (h4 : ¬ hh < 1) (h5 : ¬ hh > 4294967296) (h6 : 1 ≤ u ∧ u ≤ 1048576) (hnil : A = none → c = 0) (hm : m ≤ n) (hq : ∀ (k : Nat) x, l[k]? = some x → decide (x.2.2.2 + u ≤ hh) = decide (k < m)) :
    Calls Try.prog 25 #[.slice A n c, .int .i64 hh, .int .i64 u] w (RetHop2 (l.take m) (l.drop m) 0 w) := by
  have s1 := h.small
  have hl := h.rlen hopC_len (by decide)
  have hcap := h.2.1
  have hmy := chkH_may (l := l) (by rw [← hf])
  have hH : ∀ (w1 wx : World), Sl w1 4 A n c (l.flatMap hopC) → ∀ i : Nat, Ext w1 wx → i < n → Calls Try.prog 95 (#[.agg #[.slice A n c, .int .i64 hh, .int .i64 u]] ++ #[.int .i64 (i : Int)] ++ #[]) wx fun e w' => e = .returned (.bool (decide (m ≤ i))) ∧ Ext wx w' := by
    intro w1 wx hs i hx hi
    obtain ⟨⟨x0, x1, x2, x3⟩, hk⟩ : ∃ x, l[i]? = some x := ⟨l[i], List.getElem?_eq_getElem (by omega)⟩
    have h1 := (hmy _ (List.mem_of_getElem? hk)).2.2.2.2
    dsimp only at h1
    refine hopAfter_any A n c i l hh u x0 x1 x2 x3 (x3 + u) _ wx (hs.ext hx) hk (IntWalk.i64_in _ (by omega)) ?_
    have h2 := hq i _ hk
    dsimp only at h2
    rw [decide_eq_decide] at h2 ⊢
    omega
  have HH := Lib.hid hH
  have HB : Hid (true = decide (1 ≤ u ∧ u ≤ 1048576)) := Lib.hid (decide_eq_true h6).symm
  have HL := Lib.hid hl
  have HS := Lib.hid h
  have HW := Lib.hid hw
  have HF := Lib.hid hf
  have hmi : (m : Int) ≤ n := by omega
  have hmc : (m : Int) ≤ c := by omega
  have eg : ∀ (args : Array Value) (w : World), (callFunc 95 args).run Try.prog w = .ok (.enter 95 args) w := enters_of (P := Try.prog) Try.func95 (by kernel_rfl) rfl
  clear h hw hf hmy hq hH
  go_enter Try.func25, Try.ntmps25
  go_wp2_with fail
  (with_reducible refine (hopCheck_ev A n c l 0 f2 _ (HS.out.ext (by repeat (first | with_reducible exact Ext.refl _ | with_reducible refine Ext.drew ?_ | with_reducible refine Ext.drewN ?_ _ | with_reducible refine Ext.alloc ?_ _ | with_reducible refine Ext.setCell ?_ (by first | omega | (simp; done) | (simp; omega)) _))) (fits_t HW.out) HF.out).mono ?_)
  rintro e w1 ⟨rfl, hx1⟩
  have z1 := hx1.size
  try simp at z1
  replace HS := Lib.hid (HS.out.ext (Ext.trans (by repeat (first | with_reducible exact Ext.refl _ | with_reducible refine Ext.drew ?_ | with_reducible refine Ext.drewN ?_ _ | with_reducible refine Ext.alloc ?_ _ | with_reducible refine Ext.setCell ?_ (by first | omega | (simp; done) | (simp; omega)) _)) hx1))
  have X1 : Hid (Ext w w1) := Lib.hid (Ext.trans (by repeat (first | with_reducible exact Ext.refl w | with_reducible refine Ext.drew ?_ | with_reducible refine Ext.drewN ?_ _ | with_reducible refine Ext.alloc ?_ _ | with_reducible refine Ext.setCell ?_ (by first | omega | (simp; done) | (simp; omega)) _)) hx1)
  clear hx1 z1
  go_wp2_with fail
  (with_reducible refine (hopTime_any u true _ HB.out).mono ?_)
  rintro e w2 ⟨rfl, hx2⟩
  have z2 := hx2.size
  try simp at z2
  replace HS := Lib.hid (HS.out.ext (Ext.trans (by repeat (first | with_reducible exact Ext.refl _ | with_reducible refine Ext.drew ?_ | with_reducible refine Ext.drewN ?_ _ | with_reducible refine Ext.alloc ?_ _ | with_reducible refine Ext.setCell ?_ (by first | omega | (simp; done) | (simp; omega)) _)) hx2))
  have X2 : Hid (Ext w w2) := Lib.hid (Ext.trans (by repeat (first | with_reducible exact X1.out | with_reducible refine Ext.drew ?_ | with_reducible refine Ext.drewN ?_ _ | with_reducible refine Ext.alloc ?_ _ | with_reducible refine Ext.setCell ?_ (by first | omega | (simp; done) | (simp; omega)) _)) hx2)
  clear X1 hx2 z2
  go_wp2_with fail
  (with_reducible refine (sortSearch_at 95 #[.agg #[.slice A n c, .int .i64 hh, .int .i64 u]] #[] n m _ eg (by omega) hm (fun wx i hx hi => HH.out _ wx (HS.out.ext (by repeat (first | with_reducible exact Ext.refl _ | with_reducible refine Ext.drew ?_ | with_reducible refine Ext.drewN ?_ _ | with_reducible refine Ext.alloc ?_ _ | with_reducible refine Ext.setCell ?_ (by first | omega | (simp; done) | (simp; omega)) _))) i hx hi)).mono ?_)
  rintro e w3 ⟨rfl, hx3⟩
  have z3 := hx3.size
  try simp at z3
  replace HS := Lib.hid (HS.out.ext (Ext.trans (by repeat (first | with_reducible exact Ext.refl _ | with_reducible refine Ext.drew ?_ | with_reducible refine Ext.drewN ?_ _ | with_reducible refine Ext.alloc ?_ _ | with_reducible refine Ext.setCell ?_ (by first | omega | (simp; done) | (simp; omega)) _)) hx3))
  have X3 : Hid (Ext w w3) := Lib.hid (Ext.trans (by repeat (first | with_reducible exact X2.out | with_reducible refine Ext.drew ?_ | with_reducible refine Ext.drewN ?_ _ | with_reducible refine Ext.alloc ?_ _ | with_reducible refine Ext.setCell ?_ (by first | omega | (simp; done) | (simp; omega)) _)) hx3)
  clear X2 hx3 z3
  go_wp2_with fail
  refine wp_region_held_drew (S := fun _ => True) (by kernel_rfl) trivial (fun hHeld => ?_)
  (refine' take_in 0 rfl (by kernel_rfl) (by kernel_rfl) (by kernel_rfl) (fun _ _ _ h => h) (by rfl) (by assumption) ?_ ?_; rotate_left; focus (intro w hSw; (try dsimp only at hSw); go_simp; try with_reducible rfl)); try simp only [Act.put, List.setIfInBounds_toArray, List.set_cons_zero, List.set_cons_succ]
  (refine' take_in 1 rfl (by kernel_rfl) (by kernel_rfl) (by kernel_rfl) (fun _ _ _ h => h) (by rfl) (by assumption) ?_ ?_; rotate_left; focus (intro w hSw; (try dsimp only at hSw); go_simp; try with_reducible rfl)); try simp only [Act.put, List.setIfInBounds_toArray, List.set_cons_zero, List.set_cons_succ]
  (refine' take_in 2 rfl (by kernel_rfl) (by kernel_rfl) (by kernel_rfl) (fun _ _ _ h => h) (by rfl) (by assumption) ?_ ?_; rotate_left; focus (intro w hSw; (try dsimp only at hSw); go_simp; try with_reducible rfl)); try simp only [Act.put, List.setIfInBounds_toArray, List.set_cons_zero, List.set_cons_succ]
  (refine' take_in 4 rfl (by kernel_rfl) (by kernel_rfl) (by kernel_rfl) (fun _ _ _ h => h) (by rfl) (by assumption) ?_ ?_; rotate_left; focus (intro w hSw; (try dsimp only at hSw); go_simp; try with_reducible rfl)); try simp only [Act.put, List.setIfInBounds_toArray, List.set_cons_zero, List.set_cons_succ]
  (refine' take_in 5 rfl (by kernel_rfl) (by kernel_rfl) (by kernel_rfl) (fun _ _ _ h => h) (by rfl) (by assumption) ?_ ?_; rotate_left; focus (intro w hSw; (try dsimp only at hSw); go_simp; try with_reducible rfl)); try simp only [Act.put, List.setIfInBounds_toArray, List.set_cons_zero, List.set_cons_succ]
  (refine' take_in 6 rfl (by kernel_rfl) (by kernel_rfl) (by kernel_rfl) (fun _ _ _ h => h) (by rfl) (by assumption) ?_ ?_; rotate_left; focus (intro w hSw; (try dsimp only at hSw); go_simp; try with_reducible rfl)); try simp only [Act.put, List.setIfInBounds_toArray, List.set_cons_zero, List.set_cons_succ]
  refine' next_in 3 rfl (by kernel_rfl) (by rfl) (fun K hK => ?_)
  go_simp
  (with_reducible refine (hClone_n A m c (l.take m) _ ((HS.out.ext (by repeat (first | with_reducible exact Ext.refl _ | with_reducible refine Ext.drew ?_ | with_reducible refine Ext.drewN ?_ _ | with_reducible refine Ext.alloc ?_ _))).htake hm) (by omega) hnil (by rw [List.length_take]; have := HL.out; omega)).mono ?_)
  rintro e w5 ⟨A5, c5, rfl, hA5, hO5, hx5⟩
  have X5 : Hid (Ext w w5) := Lib.hid (Ext.trans (by repeat (first | with_reducible exact X3.out | with_reducible refine Ext.drew ?_ | with_reducible refine Ext.drewN ?_ _ | with_reducible refine Ext.alloc ?_ _)) hx5)
  have HS5 := Lib.hid (HS.out.ext (Ext.trans (by repeat (first | with_reducible exact Ext.refl _ | with_reducible refine Ext.drew ?_ | with_reducible refine Ext.drewN ?_ _ | with_reducible refine Ext.alloc ?_ _)) hx5))
  have HO5 : Hid (OwnHop w5 w.heap.size (.slice A5 m c5) m (l.take m)) := Lib.hid (OwnHop.lower hO5 (Ext.size (by repeat (first | with_reducible exact X3.out | with_reducible refine Ext.drew ?_ | with_reducible refine Ext.drewN ?_ _ | with_reducible refine Ext.alloc ?_ _))))
  clear hO5 hx5
  refine hK.out _ _ (trivial) (fun hHeld => ?_); clear hK K; try simp only [Act.put, List.setIfInBounds_toArray, List.set_cons_zero, List.set_cons_succ]
  refine' next_in 7 rfl (by kernel_rfl) (by rfl) (fun K hK => ?_)
  go_simp
  (with_reducible refine (hClone_n (if c = m then A else A.map (·.add (m * 4))) (n - m) (c - m) (l.drop m) _ ((HS5.out.ext (by repeat (first | with_reducible exact Ext.refl _ | with_reducible refine Ext.drew ?_ | with_reducible refine Ext.drewN ?_ _ | with_reducible refine Ext.alloc ?_ _))).hdrop hm) (by omega) (by intro h; split at h; (have := hnil h; omega); (have := hnil (by simpa using h); omega)) (by rw [List.length_drop]; have := HL.out; omega)).mono ?_)
  rintro e w6 ⟨A6, c6, rfl, hA6, hO6, hx6⟩
  have X6 : Hid (Ext w w6) := Lib.hid (Ext.trans X5.out (Ext.trans (by repeat (first | with_reducible exact Ext.refl _ | with_reducible refine Ext.drew ?_ | with_reducible refine Ext.drewN ?_ _ | with_reducible refine Ext.alloc ?_ _)) hx6))
  have HO6 : Hid (OwnHop w6 w.heap.size (.slice A5 m c5) m (l.take m)) := Lib.hid (HO5.out.ext (Ext.trans (by repeat (first | with_reducible exact Ext.refl _ | with_reducible refine Ext.drew ?_ | with_reducible refine Ext.drewN ?_ _ | with_reducible refine Ext.alloc ?_ _)) hx6))
  have HO7 : Hid (OwnHop w6 w.heap.size (.slice A6 (n - m) c6) (n - m) (l.drop m)) := Lib.hid (OwnHop.lower hO6 (Ext.size X5.out))
  have hap : ∀ b o s b' o' s', A5 = some ⟨b, o, s⟩ → A6 = some ⟨b', o', s'⟩ → b ≠ b' := by
    intro b o s b' o' s' e1 e2 e3
    have h1 := (HO5.out.in_ b o s e1).2
    have h2 := (OwnHop.in_ hO6 b' o' s' e2).1
    omega
  have HAP := Lib.hid hap
  clear hO6 hx6 hap
  refine hK.out _ _ (trivial) (fun hHeld => ?_); clear hK K; try simp only [Act.put, List.setIfInBounds_toArray, List.set_cons_zero, List.set_cons_succ]
  (refine' take_in 8 rfl (by kernel_rfl) (by kernel_rfl) (by kernel_rfl) (fun _ _ _ h => h) (by rfl) (by assumption) ?_ ?_; rotate_left; focus (intro w hSw; (try dsimp only at hSw); go_simp; try with_reducible rfl)); try simp only [Act.put, List.setIfInBounds_toArray, List.set_cons_zero, List.set_cons_succ]
  (refine' take_in 9 rfl (by kernel_rfl) (by kernel_rfl) (by kernel_rfl) (fun _ _ _ h => h) (by rfl) (by assumption) ?_ ?_; rotate_left; focus (intro w hSw; (try dsimp only at hSw); go_simp; try with_reducible rfl)); try simp only [Act.put, List.setIfInBounds_toArray, List.set_cons_zero, List.set_cons_succ]
  (refine' take_in 10 rfl (by kernel_rfl) (by kernel_rfl) (by kernel_rfl) (fun _ _ _ h => h) (by rfl) (by assumption) ?_ ?_; rotate_left; focus (intro w hSw; (try dsimp only at hSw); go_simp; try with_reducible rfl)); try simp only [Act.put, List.setIfInBounds_toArray, List.set_cons_zero, List.set_cons_succ]
  refine wpAnyH_done (by kernel_rfl) ?_ _
  have e1 : (l.take m).length = m := by rw [List.length_take]; have := HL.out; omega
  have e2 : (l.drop m).length = n - m := by rw [List.length_drop]; have := HL.out; omega
  go_wp2_with fail
  all_goals refine bodyPost_ret (v := .tuple #[.slice A5 m c5, .slice A6 (n - m) c6, .int .i64 0]) (by simp [results, Try.results25]; try rfl) rfl ⟨A5, c5, A6, c6, by rw [e1, e2], hA5, hA6, by rw [e1]; exact HO6.out, by rw [e2]; exact HO7.out, HAP.out, X6.out⟩
theorem hopRipe_okE (A : Option Addr) (n c : Nat) (l : List (Int × Int × Int × Int)) (hh u f2 : Int) (w : World) (h : Sl w 4 A n c (l.flatMap hopC)) (hn : n < 1099511627776) (hw : ∀ x ∈ l, FitsH x) (hf : (0, f2) = chkH l) (h4 : ¬ hh < 1) (h5 : ¬ hh > 4294967296) (h6 : 1 ≤ u ∧ u ≤ 1048576) (hnil : A = none → c = 0) :
    Calls Try.prog 25 #[.slice A n c, .int .i64 hh, .int .i64 u] w (RetHop2 (l.filter (fun x => decide (x.2.2.2 + u ≤ hh))) (l.filter (fun x => !decide (x.2.2.2 + u ≤ hh))) 0 w) := by
  have hl := h.rlen hopC_len (by decide)
  obtain ⟨m, hm, e1, e2, hq⟩ := split_mono (fun x : (Int × Int × Int × Int) => decide (x.2.2.2 + u ≤ hh)) l (fun i j x y hij hx hy h => by
    have := chkH_sorted (l := l) (by rw [← hf]) i j x y hij hx hy
    simp only [decide_eq_true_eq] at h ⊢
    omega)
  rw [e1, e2]
  exact hopRipe_ok A n c m l hh u f2 w h hn hw hf h4 h5 h6 hnil (by omega) hq
theorem hopRipe_any (A : Option Addr) (n c : Nat) (l : List (Int × Int × Int × Int)) (hh u : Int) (w : World) (h : Sl w 4 A n c (l.flatMap hopC)) (hn : n < 1099511627776) (hw : ∀ x ∈ l, FitsH x) (hnil : A = none → c = 0) :
    Calls Try.prog 25 #[.slice A n c, .int .i64 hh, .int .i64 u] w (RetHop2 (ripV l hh u).1 (ripV l hh u).2.1 (ripV l hh u).2.2 w) := by
  obtain ⟨⟨f1, f2⟩, hf⟩ : ∃ F, F = chkH l := ⟨_, rfl⟩
  have hE : ripE l hh u = if f1 ≠ 0 then f1 else if hh < 1 ∨ hh > 4294967296 ∨ ¬ (1 ≤ u ∧ u ≤ 1048576) then 3 else 0 := by
    unfold ripE
    rw [← hf]
  by_cases hc : f1 = 0
  · by_cases h4 : hh < 1
    · rw [ripV_no (e := 3) (by rw [hE, if_neg (by simpa using hc), if_pos (Or.inl h4)]) (by decide)]
      exact hopRipe_lo A n c l hh u f1 f2 w h hw hf hc h4
    by_cases h5 : hh > 4294967296
    · rw [ripV_no (e := 3) (by rw [hE, if_neg (by simpa using hc), if_pos (Or.inr (Or.inl h5))]) (by decide)]
      exact hopRipe_hi A n c l hh u f1 f2 w h hw hf hc h4 h5
    by_cases h6 : 1 ≤ u ∧ u ≤ 1048576
    · rw [ripV_ok (by rw [hE, if_neg (by simpa using hc), if_neg (by intro h7; rcases h7 with h7 | h7 | h7; exact h4 h7; exact h5 h7; exact h7 h6)])]
      subst hc
      exact hopRipe_okE A n c l hh u f2 w h hn hw hf h4 h5 h6 hnil
    · rw [ripV_no (e := 3) (by rw [hE, if_neg (by simpa using hc), if_pos (Or.inr (Or.inr h6))]) (by decide)]
      exact hopRipe_tm A n c l hh u f1 f2 w h hw hf hc h4 h5 h6
  · rw [ripV_no (e := f1) (by rw [hE, if_pos hc]) hc]
    exact hopRipe_chk A n c l hh u f1 f2 w h hw hf hc
end Go.Proofs.Ytjdpgapmdmpjjaa
