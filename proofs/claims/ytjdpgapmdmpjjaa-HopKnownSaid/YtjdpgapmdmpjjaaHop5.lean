/- hops: whose one is, how many there are of each. Conditions stand in each lemma. -/
import Derived.Test.YtjdpgapmdmpjjaaHop4
set_option linter.unusedVariables false
set_option linter.unusedSimpArgs false
namespace Go.Proofs.Ytjdpgapmdmpjjaa
open Go.RowKit Go.ChangeShapes Go.WideShapes Go.Deep Go.Joins

theorem cntL_take {l : List (Int × Int × Int × Int)} {k : Nat} {x : (Int × Int × Int × Int)} {ow sr d : Int} (h : l[k]? = some x) : cntL (l.take (k + 1)) ow sr d = cntL (l.take k) ow sr d + if x.1 = ow ∧ x.2.1 = sr ∧ x.2.2.1 = d then 1 else 0 := by
  rw [hopC_take h, cntL_add]
theorem keyW_wf {x : Int} (h : Fits .i64 x) : (Lit.int .i64 x).wf = true := by
  have h1 := h.i64
  have e1 : IntKind.i64.min = -9223372036854775808 := by decide
  have e2 : IntKind.i64.max = 9223372036854775807 := by decide
  simp only [Lit.wf, e1, e2, Bool.and_eq_true, decide_eq_true_eq]
  omega
set_option maxRecDepth 100000 in
set_option maxHeartbeats 4000000 in
theorem hopOf_any (x0 x1 x2 x3 : Int) (w : World) : Calls Try.prog 92 #[.agg #[.int .i64 x0, .int .i64 x1, .int .i64 x2, .int .i64 x3]] w fun e w' => e = .returned (.agg #[.int .i64 x0, .int .i64 x1, .int .i64 x2]) ∧ Ext w w' := by
  go_enter Try.func92, Try.ntmps92
  go_wp2_with fail
  refine bodyPost_ret (v := .agg #[.int .i64 x0, .int .i64 x1, .int .i64 x2]) (by simp [results, Try.results92, go_sem, World.cell?_alloc_past]; try rfl) rfl ⟨rfl, ?_⟩
  exact (by repeat (first | with_reducible exact Ext.refl w | with_reducible refine Ext.drew ?_ | with_reducible refine Ext.drewN ?_ _ | with_reducible refine Ext.alloc ?_ _ | with_reducible refine Ext.setCell ?_ (by first | omega | (simp; done) | (simp; omega)) _))
set_option maxRecDepth 100000 in
set_option maxHeartbeats 4000000 in
theorem rCount15_any (A : Option Addr) (n c : Nat) (l : List (Int × Int × Int × Int)) (ow sr d : Int) (w : World) (h : Sl w 4 A n c (l.flatMap hopC)) (hn : n < 1099511627776) :
    Calls Try.prog 22 #[.slice A n c, .int .i64 ow, .int .i64 sr, .int .i64 d] w fun e w' => e = .returned (.int .i64 (cntL l ow sr d)) ∧ Ext w w' := by
  have hl := h.rlen hopC_len (by decide)
  have s1 := h.small
  have HS := Lib.hid h
  have HL := Lib.hid hl
  clear h hl
  go_enter Try.func22, Try.ntmps22
  go_wp2
  go_loopg [9, 10] n (fun gh q i wx => gh ≤ n ∧ i = .int .i64 ((n - gh : Nat) : Int) ∧ q = .int .i64 (cntL (l.take (n - gh)) ow sr d) ∧ Ext w wx)
  case atStart => exact ⟨Nat.le_refl _, by simp, by rw [Nat.sub_self]; rfl, Ext.refl _⟩
  case round =>
    obtain ⟨hg, hi, hq, hx⟩ := hrel
    obtain ⟨k, hk⟩ : ∃ k, k = n - gk := ⟨_, rfl⟩
    rw [← hk] at hi hq
    subst hi
    have XR := Lib.hid hx
    by_cases hz : gk = 0
    · have hkn : ¬ (k : Int) < n := by omega
      have hkl : l.take k = l := List.take_of_length_le (by have := HL.out; omega)
      rw [hkl] at hq
      subst hq
      clear hx hk hg hz hkl
      go_wp2
      go_ret
      exact ⟨rfl, XR.out⟩
    · have hkn : (k : Int) < n := by omega
      have hk1 : k < l.length := by have := HL.out; omega
      have hrm := Ext.size hx
      obtain ⟨b1, o1, rfl, hb1, hc1⟩ := HS.out.rec_ hopC_len (show 0 < n from by omega)
      obtain ⟨xv, hxx⟩ : ∃ x, x = l[k] := ⟨_, rfl⟩
      have hlk : l[k]? = some xv := by rw [hxx]; exact List.getElem?_eq_getElem hk1
      have htk := cntL_take (ow := ow) (sr := sr) (d := d) hlk
      have hbd := cntL_len (l.take k) ow sr d
      rw [List.length_take] at hbd
      obtain ⟨cv, hcv⟩ : ∃ c, c = cntL (l.take k) ow sr d := ⟨_, rfl⟩
      rw [← hcv] at htk hq hbd
      subst hq
      have hwr : IntKind.i64.wrap (cv + 1) = cv + 1 := IntWalk.i64_in _ (by omega)
      have x_0 := XR.out.has (hc1 k xv hlk 0 _ rfl)
      have x_1 := XR.out.has (hc1 k xv hlk 1 _ rfl)
      have x_2 := XR.out.has (hc1 k xv hlk 2 _ rfl)
      have x_3 := XR.out.has (hc1 k xv hlk 3 _ rfl)
      obtain ⟨x0, x1, x2, x3⟩ := xv
      simp only at x_0 x_1 x_2 x_3 htk
      rw [Nat.add_zero] at x_0
      rw [← Nat.add_assoc] at x_1 x_2 x_3
      have HK := Lib.hid (And.intro hk (And.intro hg hz))
      clear hx hk hg hz hc1 hxx hk1 hlk hcv hbd
      by_cases g0 : x0 = ow
      · by_cases g1 : x1 = sr
        · by_cases g2 : x2 = d
          · have e0 : (x0 == ow) = true := by simpa using g0
            have e1 : (x1 == sr) = true := by simpa using g1
            have e2 : (x2 == d) = true := by simpa using g2
            rw [if_pos (by omega)] at htk
            have HT := Lib.hid htk
            clear htk g0 g1 g2
            go_wp2_with fail
            go_roundg (gk - 1)
            case measure => have := HK.out; omega
            case rel =>
              refine ⟨by have := HK.out; omega, num_eq (by have := HK.out; omega), ?_, (by repeat (first | with_reducible exact XR.out | with_reducible refine Ext.drew ?_ | with_reducible refine Ext.drewN ?_ _ | with_reducible refine Ext.alloc ?_ _ | with_reducible refine Ext.setCell ?_ (by first | omega | (simp; done) | (simp; omega)) _))⟩
              rw [show n - (gk - 1) = k + 1 from by have := HK.out; omega, HT.out]
          · have e0 : (x0 == ow) = true := by simpa using g0
            have e1 : (x1 == sr) = true := by simpa using g1
            have e2 : (x2 == d) = false := by simpa using g2
            rw [if_neg (by omega)] at htk
            have HT := Lib.hid htk
            clear htk g0 g1 g2
            go_wp2_with fail
            go_roundg (gk - 1)
            case measure => have := HK.out; omega
            case rel =>
              refine ⟨by have := HK.out; omega, num_eq (by have := HK.out; omega), ?_, (by repeat (first | with_reducible exact XR.out | with_reducible refine Ext.drew ?_ | with_reducible refine Ext.drewN ?_ _ | with_reducible refine Ext.alloc ?_ _ | with_reducible refine Ext.setCell ?_ (by first | omega | (simp; done) | (simp; omega)) _))⟩
              rw [show n - (gk - 1) = k + 1 from by have := HK.out; omega, HT.out]
              rw [Int.add_zero]
        · have e0 : (x0 == ow) = true := by simpa using g0
          have e1 : (x1 == sr) = false := by simpa using g1
          rw [if_neg (by omega)] at htk
          have HT := Lib.hid htk
          clear htk g0 g1
          go_wp2_with fail
          go_roundg (gk - 1)
          case measure => have := HK.out; omega
          case rel =>
            refine ⟨by have := HK.out; omega, num_eq (by have := HK.out; omega), ?_, (by repeat (first | with_reducible exact XR.out | with_reducible refine Ext.drew ?_ | with_reducible refine Ext.drewN ?_ _ | with_reducible refine Ext.alloc ?_ _ | with_reducible refine Ext.setCell ?_ (by first | omega | (simp; done) | (simp; omega)) _))⟩
            rw [show n - (gk - 1) = k + 1 from by have := HK.out; omega, HT.out]
            rw [Int.add_zero]
      · have e0 : (x0 == ow) = false := by simpa using g0
        rw [if_neg (by omega)] at htk
        have HT := Lib.hid htk
        clear htk g0
        go_wp2_with fail
        go_roundg (gk - 1)
        case measure => have := HK.out; omega
        case rel =>
          refine ⟨by have := HK.out; omega, num_eq (by have := HK.out; omega), ?_, (by repeat (first | with_reducible exact XR.out | with_reducible refine Ext.drew ?_ | with_reducible refine Ext.drewN ?_ _ | with_reducible refine Ext.alloc ?_ _ | with_reducible refine Ext.setCell ?_ (by first | omega | (simp; done) | (simp; omega)) _))⟩
          rw [show n - (gk - 1) = k + 1 from by have := HK.out; omega, HT.out]
          rw [Int.add_zero]
set_option maxRecDepth 100000 in
set_option maxHeartbeats 4000000 in
theorem hopCounts_any (A : Option Addr) (n c : Nat) (l : List (Int × Int × Int × Int)) (w : World) (h : Sl w 4 A n c (l.flatMap hopC)) (hn : n < 1099511627776) (hw : ∀ x ∈ l, Fits .i64 x.1 ∧ Fits .i64 x.2.1 ∧ Fits .i64 x.2.2.1) :
    Calls Try.prog 91 #[.slice A n c] w fun e w' => e = .returned (.map (some w.heap.size)) ∧ (CntW w' w.heap.size n l ∧ Ext w w') := by
  have hl := h.rlen hopC_len (by decide)
  have s1 := h.small
  have HS := Lib.hid h
  have HL := Lib.hid hl
  have HW := Lib.hid hw
  clear h hl hw
  have hmm := @run_makeMap Try.prog
  go_enter Try.func91, Try.ntmps91
  go_wp2
  go_loopg [9] n (fun gh i wx => gh ≤ n ∧ i = .int .i64 ((n - gh : Nat) : Int) ∧ Hid (CntW wx w.heap.size (n - gh) (l.take (n - gh))) ∧ Ext w wx)
  case atStart => exact ⟨Nat.le_refl _, by simp, Lib.hid (by rw [Nat.sub_self]; exact CntW.made w), Ext.alloc (Ext.refl _) _⟩
  case round =>
    obtain ⟨hg, hi, hm, hx⟩ := hrel
    obtain ⟨k, hk⟩ : ∃ k, k = n - gk := ⟨_, rfl⟩
    rw [← hk] at hi hm
    subst hi
    have XR := Lib.hid hx
    by_cases hz : gk = 0
    · have hkn : ¬ (k : Int) < n := by omega
      have hkl : l.take k = l := List.take_of_length_le (by have := HL.out; omega)
      have hkk : k = n := by omega
      rw [hkl, hkk] at hm
      clear hx hk hg hz hkl hkk
      go_wp2
      go_ret
      exact ⟨rfl, hm.out, XR.out⟩
    · have hkn : (k : Int) < n := by omega
      have hk1 : k < l.length := by have := HL.out; omega
      have hrm := Ext.size hx
      obtain ⟨b1, o1, rfl, hb1, hc1⟩ := HS.out.rec_ hopC_len (show 0 < n from by omega)
      obtain ⟨xv, hxx⟩ : ∃ x, x = l[k] := ⟨_, rfl⟩
      have hlk : l[k]? = some xv := by rw [hxx]; exact List.getElem?_eq_getElem hk1
      have htk := hopC_take hlk
      obtain ⟨f0, f1, f2⟩ := HW.out xv (List.mem_of_getElem? hlk)
      have hlen : (l.take k).length = k := by rw [List.length_take]; omega
      have x_0 := XR.out.has (hc1 k xv hlk 0 _ rfl)
      have x_1 := XR.out.has (hc1 k xv hlk 1 _ rfl)
      have x_2 := XR.out.has (hc1 k xv hlk 2 _ rfl)
      have x_3 := XR.out.has (hc1 k xv hlk 3 _ rfl)
      obtain ⟨x0, x1, x2, x3⟩ := xv
      simp only at x_0 x_1 x_2 x_3 htk f0 f1 f2
      rw [Nat.add_zero] at x_0
      rw [← Nat.add_assoc] at x_1 x_2 x_3
      have hbd := cntL_len (l.take k) x0 x1 x2
      rw [hlen] at hbd
      obtain ⟨cv, hcv⟩ : ∃ c, c = cntL (l.take k) x0 x1 x2 := ⟨_, rfl⟩
      rw [← hcv] at hbd
      have hwr : IntKind.i64.wrap (cv + 1) = cv + 1 := IntWalk.i64_in _ (by omega)
      have hk5 : k < 1099511627776 := by omega
      have hmb := hm.out.lt
      have HK := Lib.hid (And.intro hk (And.intro hg hz))
      have HC := Lib.hid hcv
      have HT := Lib.hid htk
      have HL5 := Lib.hid hlen
      clear hx hk hg hz hc1 hxx hk1 hlk hcv hbd htk hlen
      go_wp2_with fail
      refine wp_region_held_drew (S := fun _ => True) (by kernel_rfl) trivial (fun hHeld => ?_)
      (refine' take_in 0 rfl (by kernel_rfl) (by kernel_rfl) (by kernel_rfl) (fun _ _ _ h => h) (by rfl) (by assumption) ?_ ?_; rotate_left; focus (intro w hSw; (try dsimp only at hSw); go_simp; try with_reducible rfl)); try simp only [Act.put, List.setIfInBounds_toArray, List.set_cons_zero, List.set_cons_succ]
      refine' next_in 1 rfl (by kernel_rfl) (by rfl) (fun K hK => ?_)
      go_simp
      refine hK.out _ _ (trivial) (fun hHeld => ?_); clear hK K; try simp only [Act.put, List.setIfInBounds_toArray, List.set_cons_zero, List.set_cons_succ]
      refine' next_in 2 rfl (by kernel_rfl) (by rfl) (fun K hK => ?_)
      go_simp
      (with_reducible refine (hopOf_any x0 x1 x2 x3 _).mono ?_)
      rintro e w11 ⟨rfl, hx11⟩
      have X11 : Hid (Ext w w11) := Lib.hid (Ext.trans (by repeat (first | with_reducible exact XR.out | with_reducible refine Ext.drew ?_ | with_reducible refine Ext.drewN ?_ _ | with_reducible refine Ext.alloc ?_ _)) hx11)
      have HM1 : Hid (CntW w11 w.heap.size k (l.take k)) := Lib.hid (hm.out.ext (Ext.trans (by repeat (first | with_reducible exact Ext.refl _ | with_reducible refine Ext.drew ?_ | with_reducible refine Ext.drewN ?_ _ | with_reducible refine Ext.alloc ?_ _)) hx11))
      clear hx11 XR hm
      obtain ⟨st, w12, hrun2, hgr2, hM2, hlast⟩ := CntW.entry (o := x0) (s := x1) (d := x2) (y := x3) HM1.out (by unfold maxLen; omega) (keyW_wf f0) (keyW_wf f1) (keyW_wf f2) (by have := HL5.out; omega)
      have hrun1 := CntW.look HM1.out (keyW_wf f0) (keyW_wf f1) (keyW_wf f2)
      rw [← HC.out] at hrun1 hrun2 hlast
      have hrun3 := CntW.look hM2 (keyW_wf f0) (keyW_wf f1) (keyW_wf f2)
      rw [← HC.out] at hrun3
      have X12 : Hid (Ext w w12) := Lib.hid (Ext.grown X11.out hgr2 (fun q hq => by cases hq; exact Nat.le_refl _))
      obtain ⟨w13, hrun4, hgr4, hM4⟩ := hlast w12 rfl
      unfold goInt at hrun4
      have X13 : Hid (Ext w w13) := Lib.hid (Ext.grown X12.out hgr4 (fun q hq => by cases hq; exact Nat.le_refl _))
      have HM4 := Lib.hid hM4
      clear hM2 hM4 hgr2 hgr4 hlast HM1 X11 X12
      refine hK.out _ _ (trivial) (fun hHeld => ?_); clear hK K; try simp only [Act.put, List.setIfInBounds_toArray, List.set_cons_zero, List.set_cons_succ]
      refine' next2_in 3 5 rfl rfl (by kernel_rfl) (by rfl) (by rfl) (fun K hK => ?_) (fun K hK => ?_)
      · go_simp
        refine hK.out _ _ (trivial) (fun hHeld => ?_); clear hK K; try simp only [Act.put, List.setIfInBounds_toArray, List.set_cons_zero, List.set_cons_succ]
        (refine' take_in 4 rfl (by kernel_rfl) (by kernel_rfl) (by kernel_rfl) (fun _ _ _ h => h) (by rfl) (by assumption) ?_ ?_; rotate_left; focus (intro w hSw; (try dsimp only at hSw); go_simp; try with_reducible rfl)); try simp only [Act.put, List.setIfInBounds_toArray, List.set_cons_zero, List.set_cons_succ]
        refine' next_in 5 rfl (by kernel_rfl) (by rfl) (fun K hK => ?_)
        go_simp
        refine hK.out _ _ (trivial) (fun hHeld => ?_); clear hK K; try simp only [Act.put, List.setIfInBounds_toArray, List.set_cons_zero, List.set_cons_succ]
        (refine' take_in 6 rfl (by kernel_rfl) (by kernel_rfl) (by kernel_rfl) (fun _ _ _ h => h) (by rfl) (by assumption) ?_ ?_; rotate_left; focus (intro w hSw; (try dsimp only at hSw); go_simp; try with_reducible rfl)); try simp only [Act.put, List.setIfInBounds_toArray, List.set_cons_zero, List.set_cons_succ]
        refine' next_in 7 rfl (by kernel_rfl) (by rfl) (fun K hK => ?_)
        go_simp
        refine hK.out _ _ (trivial) (fun hHeld => ?_); clear hK K; try simp only [Act.put, List.setIfInBounds_toArray, List.set_cons_zero, List.set_cons_succ]
        refine wpAnyH_done (by kernel_rfl) ?_ _
        go_wp2_with fail
        go_roundg (gk - 1)
        case measure => have := HK.out; omega
        case rel =>
          refine ⟨by have := HK.out; omega, num_eq (by have := HK.out; omega), Lib.hid ?_, X13.out⟩
          rw [show n - (gk - 1) = k + 1 from by have := HK.out; omega, HT.out]
          exact HM4.out
      · go_simp
        refine hK.out _ _ (trivial) (fun hHeld => ?_); clear hK K; try simp only [Act.put, List.setIfInBounds_toArray, List.set_cons_zero, List.set_cons_succ]
        (refine' take_in 6 rfl (by kernel_rfl) (by kernel_rfl) (by kernel_rfl) (fun _ _ _ h => h) (by rfl) (by assumption) ?_ ?_; rotate_left; focus (intro w hSw; (try dsimp only at hSw); go_simp; try with_reducible rfl)); try simp only [Act.put, List.setIfInBounds_toArray, List.set_cons_zero, List.set_cons_succ]
        refine' next_in 3 rfl (by kernel_rfl) (by rfl) (fun K hK => ?_)
        go_simp
        refine hK.out _ _ (trivial) (fun hHeld => ?_); clear hK K; try simp only [Act.put, List.setIfInBounds_toArray, List.set_cons_zero, List.set_cons_succ]
        (refine' take_in 4 rfl (by kernel_rfl) (by kernel_rfl) (by kernel_rfl) (fun _ _ _ h => h) (by rfl) (by assumption) ?_ ?_; rotate_left; focus (intro w hSw; (try dsimp only at hSw); go_simp; try with_reducible rfl)); try simp only [Act.put, List.setIfInBounds_toArray, List.set_cons_zero, List.set_cons_succ]
        refine' next_in 7 rfl (by kernel_rfl) (by rfl) (fun K hK => ?_)
        go_simp
        refine hK.out _ _ (trivial) (fun hHeld => ?_); clear hK K; try simp only [Act.put, List.setIfInBounds_toArray, List.set_cons_zero, List.set_cons_succ]
        refine wpAnyH_done (by kernel_rfl) ?_ _
        go_wp2_with fail
        go_roundg (gk - 1)
        case measure => have := HK.out; omega
        case rel =>
          refine ⟨by have := HK.out; omega, num_eq (by have := HK.out; omega), Lib.hid ?_, X13.out⟩
          rw [show n - (gk - 1) = k + 1 from by have := HK.out; omega, HT.out]
          exact HM4.out
set_option maxRecDepth 100000 in
set_option maxHeartbeats 4000000 in
theorem hopCount_any (A : Option Addr) (n c : Nat) (l : List (Int × Int × Int × Int)) (ow sr d : Int) (w : World) (h : Sl w 4 A n c (l.flatMap hopC)) (hn : n < 1099511627776) (hw : ∀ x ∈ l, Fits .i64 x.1 ∧ Fits .i64 x.2.1 ∧ Fits .i64 x.2.2.1) (f0 : Fits .i64 ow) (f1 : Fits .i64 sr) (f2 : Fits .i64 d) :
    Calls Try.prog 21 #[.slice A n c, .int .i64 ow, .int .i64 sr, .int .i64 d] w fun e w' => e = .returned (.int .i64 (cntL l ow sr d)) ∧ Ext w w' := by
  have HS := Lib.hid h
  have HW := Lib.hid hw
  clear h hw
  go_enter Try.func21, Try.ntmps21
  go_wp2_with fail
  (with_reducible refine (hopCounts_any A n c l _ HS.out hn HW.out).mono ?_)
  rintro e w1 ⟨rfl, hC, hx⟩
  have hrun := CntW.look hC (keyW_wf f0) (keyW_wf f1) (keyW_wf f2)
  have X1 := Lib.hid hx
  clear hC hx
  go_wp2
  go_ret
  exact ⟨rfl, X1.out⟩
end Go.Proofs.Ytjdpgapmdmpjjaa
