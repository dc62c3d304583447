/- hops: a list's bytes, on both sides. Conditions stand in each lemma. -/
import Derived.Test.YtjdpgapmdmpjjaaHop10
import Derived.Test.YtjdpgapmdmpjjaaCod
import Derived.Test.YtjdpgapmdmpjjaaRefW
set_option linter.unusedVariables false
set_option linter.unusedSimpArgs false
namespace Go.Proofs.Ytjdpgapmdmpjjaa
open Go.RowKit Go.ChangeShapes Go.WideShapes Go.Deep Go.Joins

/-- the bytes of numbers, one behind the other -/
def numB (l : List Int) : List Nat := l.flatMap fun n => putL n.toNat
theorem numB_take {l : List Int} {k : Nat} {x : Int} (h : l[k]? = some x) : numB (l.take (k + 1)) = numB (l.take k) ++ putL x.toNat := by
  obtain ⟨hk, hx⟩ := List.getElem?_eq_some_iff.1 h
  unfold numB
  rw [List.take_add_one, h, List.flatMap_append]
  simp
theorem numB_len {l : List Int} (h : ∀ x ∈ l, x < 18446744073709551616) : (numB l).length ≤ 10 * l.length := by
  induction l with
  | nil => simp [numB]
  | cons x l ih =>
    have h1 := putL_ten (N := x.toNat) (by have := h x (List.mem_cons_self ..); omega)
    have h2 := ih (fun y hy => h y (List.mem_cons_of_mem _ hy))
    unfold numB at h2 ⊢
    rw [List.flatMap_cons, List.length_append, List.length_cons]
    omega
/-- a hop's numbers, and bytes -/
def hopN (x : (Int × Int × Int × Int)) : List Int := [x.1, x.2.1, x.2.2.1, x.2.2.2]
def hopB (x : (Int × Int × Int × Int)) : List Nat := numB (hopN x)
/-- a list's bytes -/
def lstB (l : List (Int × Int × Int × Int)) : List Nat := if (chkH l).1 = 0 then putL l.length ++ l.flatMap hopB else []
theorem hop_in {x : (Int × Int × Int × Int)} (h : MayH x) : ∀ y ∈ hopN x, 0 ≤ y ∧ y < 9223372036854775808 := by
  intro y hy
  obtain ⟨h1, h2, _, h3, h4⟩ := h
  simp [hopN] at hy
  omega
theorem hop_fit {x : (Int × Int × Int × Int)} (h : MayH x) (j : Nat) : (numB ((hopN x).take j)).length ≤ 40 := by
  have h1 := numB_len (l := (hopN x).take j) (fun y hy => by have := hop_in h y (List.mem_of_mem_take hy); omega)
  have h2 : ((hopN x).take j).length ≤ 4 := by rw [List.length_take]; simp [hopN]; omega
  omega
theorem flatH_len {l : List (Int × Int × Int × Int)} (h : ∀ x ∈ l, MayH x) : (l.flatMap hopB).length ≤ 40 * l.length := by
  induction l with
  | nil => simp
  | cons x l ih =>
    have h1 := hop_fit (h x (List.mem_cons_self ..)) 4
    have h2 := ih (fun y hy => h y (List.mem_cons_of_mem _ hy))
    rw [List.take_of_length_le (show (hopN x).length ≤ 4 from Nat.le_refl _)] at h1
    rw [List.flatMap_cons, List.length_append, List.length_cons]
    unfold hopB at h2 ⊢
    omega
theorem lst_fit {l : List (Int × Int × Int × Int)} (h : (chkH l).1 = 0) (k : Nat) : (putL l.length ++ (l.take k).flatMap hopB).length ≤ 163850 := by
  obtain ⟨_, h1, _⟩ := chkH_zero h
  have h2 := flatH_len (l := l.take k) (fun x hx => chkH_may h x (List.mem_of_mem_take hx))
  have h3 : (l.take k).length ≤ 4096 := by rw [List.length_take]; omega
  have h4 := putL_ten (N := l.length) (by omega)
  rw [List.length_append]
  omega
set_option maxRecDepth 100000 in
theorem arr4_at (x0 x1 x2 x3 y : Int) (j : Nat) (h : [x0, x1, x2, x3][j]? = some y) : ∀ w : World, (Instr.index 120 (.agg #[.int .i64 x0, .int .i64 x1, .int .i64 x2, .int .i64 x3]) (.int .i64 (j : Int))).run Try.prog w = .ok (.int .i64 y) w := by
  have h0 : ∀ w : World, (Instr.index 120 (.agg #[.int .i64 x0, .int .i64 x1, .int .i64 x2, .int .i64 x3]) (.int .i64 ((0 : Nat) : Int))).run Try.prog w = .ok (.int .i64 x0) w := fun _ => by kernel_rfl
  have h1 : ∀ w : World, (Instr.index 120 (.agg #[.int .i64 x0, .int .i64 x1, .int .i64 x2, .int .i64 x3]) (.int .i64 ((1 : Nat) : Int))).run Try.prog w = .ok (.int .i64 x1) w := fun _ => by kernel_rfl
  have h2 : ∀ w : World, (Instr.index 120 (.agg #[.int .i64 x0, .int .i64 x1, .int .i64 x2, .int .i64 x3]) (.int .i64 ((2 : Nat) : Int))).run Try.prog w = .ok (.int .i64 x2) w := fun _ => by kernel_rfl
  have h3 : ∀ w : World, (Instr.index 120 (.agg #[.int .i64 x0, .int .i64 x1, .int .i64 x2, .int .i64 x3]) (.int .i64 ((3 : Nat) : Int))).run Try.prog w = .ok (.int .i64 x3) w := fun _ => by kernel_rfl
  match j, h with
  | 0, h => rw [← Option.some.inj h]; exact h0
  | 1, h => rw [← Option.some.inj h]; exact h1
  | 2, h => rw [← Option.some.inj h]; exact h2
  | 3, h => rw [← Option.some.inj h]; exact h3
  | j + 4, h => simp at h
set_option maxRecDepth 100000 in
set_option maxHeartbeats 2000000 in
theorem hopBytes_chk (A : Option Addr) (c : Nat) (l : List (Int × Int × Int × Int)) (f1 f2 : Int) (w : World) (hs : Sl w 4 A l.length c (l.flatMap hopC)) (hw : ∀ x ∈ l, FitsH x) (hf : (f1, f2) = chkH l) (hc : f1 ≠ 0) :
    Calls Try.prog 51 #[.slice A l.length c] w (ByErr (lstB l) f1 w) := by
  have s1 := hs.small
  have e7 : (f1 != 0) = true := by simpa using hc
  have hB : lstB l = [] := by unfold lstB; rw [← hf]; exact if_neg hc
  rw [hB]
  have HS := Lib.hid hs.low
  have Hf := Lib.hid hf
  have HW := Lib.hid hw
  clear hs hf hw
  go_enter Try.func51, Try.ntmps51
  go_wp2_with fail
  (with_reducible refine (hopCheck_ev A l.length c l f1 f2 _ (HS.out.ext (by repeat (first | with_reducible exact Ext.refl _ | with_reducible refine Ext.drew ?_ | with_reducible refine Ext.drewN ?_ _ | with_reducible refine Ext.alloc ?_ _ | with_reducible refine Ext.setCell ?_ (by first | omega | (simp; done) | (simp; omega)) _))).sl (fits_t HW.out) Hf.out).mono ?_)
  rintro e w1 ⟨rfl, hx1⟩
  have z1 := hx1.size
  try simp at z1
  replace HS := Lib.hid (HS.out.ext (Ext.trans (by repeat (first | with_reducible exact Ext.refl _ | with_reducible refine Ext.drew ?_ | with_reducible refine Ext.drewN ?_ _ | with_reducible refine Ext.alloc ?_ _ | with_reducible refine Ext.setCell ?_ (by first | omega | (simp; done) | (simp; omega)) _)) hx1))
  have X1 : Hid (Ext w w1) := Lib.hid (Ext.trans (by repeat (first | with_reducible exact Ext.refl w | with_reducible refine Ext.drew ?_ | with_reducible refine Ext.drewN ?_ _ | with_reducible refine Ext.alloc ?_ _ | with_reducible refine Ext.setCell ?_ (by first | omega | (simp; done) | (simp; omega)) _)) hx1)
  clear hx1 z1
  go_wp2_with fail
  refine bodyPost_ret (v := .tuple #[.slice none 0 0, .int .i64 f1]) (by simp [results, Try.results51, go_sem, World.cell?_alloc_past]; try rfl) rfl ⟨_, rfl, World.ownsRow_nil _ _ _ _, ?_⟩
  exact (by repeat (first | with_reducible exact X1.out | with_reducible refine Ext.drew ?_ | with_reducible refine Ext.drewN ?_ _ | with_reducible refine Ext.alloc ?_ _ | with_reducible refine Ext.setCell ?_ (by first | omega | (simp; done) | (simp; omega)) _))
set_option maxRecDepth 100000 in
set_option maxHeartbeats 2000000 in
theorem hopBytes_ok (A : Option Addr) (c : Nat) (l : List (Int × Int × Int × Int)) (f1 f2 : Int) (w : World) (hs : Sl w 4 A l.length c (l.flatMap hopC)) (hw : ∀ x ∈ l, FitsH x) (hf : (f1, f2) = chkH l) (hc : f1 = 0) :
    Calls Try.prog 51 #[.slice A l.length c] w (ByErr (lstB l) f1 w) := by
  have s1 := hs.small
  subst hc
  have hch : (chkH l).1 = 0 := by rw [← hf]
  have hB : lstB l = putL l.length ++ l.flatMap hopB := by unfold lstB; exact if_pos hch
  rw [hB]
  have h4096 := (chkH_zero hch).2.1
  have HC := Lib.hid hch
  clear hB hch
  have HS := Lib.hid hs.low
  have Hf := Lib.hid hf
  have HW := Lib.hid hw
  clear hs hf hw
  go_enter Try.func51, Try.ntmps51
  go_wp2_with fail
  (with_reducible refine (hopCheck_ev A l.length c l 0 f2 _ (HS.out.ext (by repeat (first | with_reducible exact Ext.refl _ | with_reducible refine Ext.drew ?_ | with_reducible refine Ext.drewN ?_ _ | with_reducible refine Ext.alloc ?_ _ | with_reducible refine Ext.setCell ?_ (by first | omega | (simp; done) | (simp; omega)) _))).sl (fits_t HW.out) Hf.out).mono ?_)
  rintro e w1 ⟨rfl, hx1⟩
  have z1 := hx1.size
  try simp at z1
  replace HS := Lib.hid (HS.out.ext (Ext.trans (by repeat (first | with_reducible exact Ext.refl _ | with_reducible refine Ext.drew ?_ | with_reducible refine Ext.drewN ?_ _ | with_reducible refine Ext.alloc ?_ _ | with_reducible refine Ext.setCell ?_ (by first | omega | (simp; done) | (simp; omega)) _)) hx1))
  have X1 : Hid (Ext w w1) := Lib.hid (Ext.trans (by repeat (first | with_reducible exact Ext.refl w | with_reducible refine Ext.drew ?_ | with_reducible refine Ext.drewN ?_ _ | with_reducible refine Ext.alloc ?_ _ | with_reducible refine Ext.setCell ?_ (by first | omega | (simp; done) | (simp; omega)) _)) hx1)
  clear hx1 z1
  go_wp2_with fail
  have hx0 := Ext.size X1.out
  (with_reducible refine (cNewWriter_ex 1048576 (by decide) (by decide) _).mono ?_)
  rintro e w2 ⟨g, rfl, hg, hW, hx2⟩
  have z2 := hx2.size
  try simp at z2
  replace HS := Lib.hid (HS.out.ext (Ext.trans (by repeat (first | with_reducible exact Ext.refl _ | with_reducible refine Ext.drew ?_ | with_reducible refine Ext.drewN ?_ _ | with_reducible refine Ext.alloc ?_ _ | with_reducible refine Ext.setCell ?_ (by first | omega | (simp; done) | (simp; omega)) _)) hx2))
  have X2 : Hid (Ext w w2) := Lib.hid (Ext.trans (by repeat (first | with_reducible exact X1.out | with_reducible refine Ext.drew ?_ | with_reducible refine Ext.drewN ?_ _ | with_reducible refine Ext.alloc ?_ _ | with_reducible refine Ext.setCell ?_ (by first | omega | (simp; done) | (simp; omega)) _)) hx2)
  have HWr := Lib.hid hW
  clear X1 hx2 z2 hW
  have hgw : w.heap.size ≤ g := by have := Ext.size X2.out; (try simp at hg); have := hx0; omega
  clear hg
  go_wp2_with fail
  (with_reducible refine (cWN_fit g 1048576 [] (l.length : Int) (by omega) (by omega) (by simp) _ (HWr.out.ext (by repeat (first | with_reducible exact Ext.refl _ | with_reducible refine Ext.drew ?_ | with_reducible refine Ext.drewN ?_ _ | with_reducible refine Ext.alloc ?_ _ | with_reducible refine Ext.setCell ?_ (by first | omega | (simp; done) | (simp; omega)) _)))).mono ?_)
  rintro e w3 ⟨rfl, hW, hx3⟩
  have hsz3 := hx3.size
  try simp at hsz3
  have z3 := hx3.size
  try simp at z3
  have X3 : Hid (Ext w w3) := Lib.hid (have hX := (show Ext w _ from (by repeat (first | with_reducible exact X2.out | with_reducible refine Ext.drew ?_ | with_reducible refine Ext.drewN ?_ _ | with_reducible refine Ext.alloc ?_ _ | with_reducible refine Ext.setCell ?_ (by first | omega | (simp; done) | (simp; omega)) _))); Below.trans hX (hx3.below (Ext.size hX) (fun k hk hh => by have h2 : g ≤ k := hh; omega)))
  replace HS := Lib.hid ((HS.out.ext (by repeat (first | with_reducible exact Ext.refl _ | with_reducible refine Ext.drew ?_ | with_reducible refine Ext.drewN ?_ _ | with_reducible refine Ext.alloc ?_ _ | with_reducible refine Ext.setCell ?_ (by first | omega | (simp; done) | (simp; omega)) _))).but hx3 (fun k hk => by have h2 : g ≤ k := hk; omega))
  clear HWr
  have HWr := Lib.hid (show Wr _ g 1048576 0 (putL l.length) from by simpa using hW)
  clear hsz3 X2 hx3 z3
  have HW0 : Hid (Wr _ g 1048576 0 (putL l.length ++ (l.take 0).flatMap hopB)) := Lib.hid (by simpa using HWr.out)
  go_wp2_with fail
  go_loopg [30] l.length (fun gh i wx => gh ≤ l.length ∧ i = .int .i64 ((l.length - gh : Nat) : Int) ∧ Hid (Wr wx g 1048576 0 (putL l.length ++ (l.take (l.length - gh)).flatMap hopB)) ∧ Hid (SlB w.heap.size wx 4 A l.length c (l.flatMap hopC)) ∧ Ext w wx)
  case atStart => exact ⟨Nat.le_refl _, by simp, by rw [Nat.sub_self]; exact HW0, HS, X3.out⟩
  case round =>
    obtain ⟨hg, hi', hw, hs, hx⟩ := hrel
    obtain ⟨k, hk⟩ : ∃ k, k = l.length - gk := ⟨_, rfl⟩
    rw [← hk] at hi' hw
    subst hi'
    have XR := Lib.hid hx
    have HWk := hw
    have HSk := hs
    by_cases hz : gk = 0
    · have hkn : ¬ (k : Int) < l.length := by omega
      have hkl : k = l.length := by omega
      have HWE : Hid (Wr wr g 1048576 0 (putL l.length ++ l.flatMap hopB)) := Lib.hid (by have h := hw.out; rw [hkl, List.take_length] at h; exact h)
      clear hx hk hg hz hw hs hkl HWk HSk
      go_wp2_with fail
      have hrm := Ext.size XR.out
      (with_reducible refine ((show _ from cDone_ok g 1048576 _ _ (HWE.out.ext (by repeat (first | with_reducible exact Ext.refl _ | with_reducible refine Ext.drew ?_ | with_reducible refine Ext.drewN ?_ _ | with_reducible refine Ext.alloc ?_ _ | with_reducible refine Ext.setCell ?_ (by first | omega | (simp; done) | (simp; omega)) _))))).mono ?_)
      rintro e w41 ⟨v, rfl, hV, hx41⟩
      have z41 := hx41.size
      try simp at z41
      replace HWE := Lib.hid (HWE.out.ext (Ext.trans (by repeat (first | with_reducible exact Ext.refl _ | with_reducible refine Ext.drew ?_ | with_reducible refine Ext.drewN ?_ _ | with_reducible refine Ext.alloc ?_ _ | with_reducible refine Ext.setCell ?_ (by first | omega | (simp; done) | (simp; omega)) _)) hx41))
      have X41 : Hid (Ext w w41) := Lib.hid (Ext.trans (by repeat (first | with_reducible exact XR.out | with_reducible refine Ext.drew ?_ | with_reducible refine Ext.drewN ?_ _ | with_reducible refine Ext.alloc ?_ _ | with_reducible refine Ext.setCell ?_ (by first | omega | (simp; done) | (simp; omega)) _)) hx41)
      have HV := Lib.hid hV
      clear XR hx41 z41 hV
      go_wp2_with fail
      refine bodyPost_ret (v := .tuple #[v, .int .i64 0]) (by simp [results, Try.results51]; try rfl) rfl ⟨v, rfl, own_lower HV.out ?_, (by repeat (first | with_reducible exact X41.out | with_reducible refine Ext.drew ?_ | with_reducible refine Ext.drewN ?_ _ | with_reducible refine Ext.alloc ?_ _ | with_reducible refine Ext.setCell ?_ (by first | omega | (simp; done) | (simp; omega)) _))⟩
      have h := hrm
      (try simp at h)
      omega
    · have hkn : (k : Int) < l.length := by omega
      have hk1 : k < l.length := by omega
      obtain ⟨b1, o1, rfl, hb1, hc1⟩ := hs.out.sl.rec_ hopC_len (show 0 < l.length from by omega)
      have hb1w := hs.out.2 (by omega) b1 o1 none rfl
      obtain ⟨x, hxx⟩ : ∃ x, x = l[k] := ⟨_, rfl⟩
      have hlk : l[k]? = some x := by rw [hxx]; exact List.getElem?_eq_getElem hk1
      have x_0 := hc1 k _ hlk 0 _ rfl
      have x_1 := hc1 k _ hlk 1 _ rfl
      have x_2 := hc1 k _ hlk 2 _ rfl
      have x_3 := hc1 k _ hlk 3 _ rfl
      have hr := chkH_may HC.out x (List.mem_of_getElem? hlk)
      have hM := lst_fit HC.out k
      have ht := hopC_take hlk
      obtain ⟨M0, hM0⟩ : ∃ M0, M0 = putL l.length ++ (l.take k).flatMap hopB := ⟨_, rfl⟩
      rw [← hM0] at hM HWk
      have hnext : putL l.length ++ (l.take (k + 1)).flatMap hopB = M0 ++ hopB x := by rw [ht, List.flatMap_append, ← List.append_assoc, ← hM0]; simp
      have hin := hop_in hr
      have hft := hop_fit hr
      obtain ⟨x0, x1, x2, x3⟩ := x
      simp only at x_0 x_1 x_2 x_3
      rw [Nat.add_zero] at x_0
      rw [← Nat.add_assoc] at x_1 x_2 x_3
      have HIN : Hid (∀ y ∈ [x0, x1, x2, x3], 0 ≤ y ∧ y < 9223372036854775808) := Lib.hid hin
      have HFT : Hid (∀ j, (numB ([x0, x1, x2, x3].take j)).length ≤ 40) := Lib.hid hft
      have HQ0 := Lib.hid hM
      have HNX : Hid (_ = M0 ++ numB [x0, x1, x2, x3]) := Lib.hid hnext
      have HK := Lib.hid (And.intro hk (And.intro hg hz))
      obtain ⟨g1, hg1⟩ : ∃ g, g = gk := ⟨_, rfl⟩
      have HG1 := Lib.hid hg1
      clear hx hk hg hz hc1 hxx hlk hr hM ht hnext hw hs hM0 hg1 hin hft
      go_wp2_with fail
      go_loopg [43] 4 (fun gh i wx => gh ≤ 4 ∧ i = .int .i64 ((4 - gh : Nat) : Int) ∧ Hid (Wr wx g 1048576 0 (M0 ++ numB ([x0, x1, x2, x3].take (4 - gh)))) ∧ Hid (SlB w.heap.size wx 4 (some ⟨b1, o1, none⟩) l.length c (l.flatMap hopC)) ∧ Ext w wx)
      case atStart => exact ⟨Nat.le_refl _, by simp, Lib.hid (by rw [show M0 ++ numB ([x0, x1, x2, x3].take (4 - 4)) = M0 from by simp [numB]]; exact (HWk.out.ext (by repeat (first | with_reducible exact Ext.refl _ | with_reducible refine Ext.drew ?_ | with_reducible refine Ext.drewN ?_ _ | with_reducible refine Ext.alloc ?_ _ | with_reducible refine Ext.setCell ?_ (by first | omega | (simp; done) | (simp; omega)) _)))), Lib.hid (HSk.out.ext (by repeat (first | with_reducible exact Ext.refl _ | with_reducible refine Ext.drew ?_ | with_reducible refine Ext.drewN ?_ _ | with_reducible refine Ext.alloc ?_ _ | with_reducible refine Ext.setCell ?_ (by first | omega | (simp; done) | (simp; omega)) _))), (by repeat (first | with_reducible exact XR.out | with_reducible refine Ext.drew ?_ | with_reducible refine Ext.drewN ?_ _ | with_reducible refine Ext.alloc ?_ _ | with_reducible refine Ext.setCell ?_ (by first | omega | (simp; done) | (simp; omega)) _))⟩
      case round =>
        obtain ⟨hg2, hi2, hw2, hs2, hx2⟩ := hrel
        obtain ⟨j, hj⟩ : ∃ j, j = 4 - gk := ⟨_, rfl⟩
        rw [← hj] at hi2 hw2
        subst hi2
        have XS := Lib.hid hx2
        by_cases hz2 : gk = 0
        · have hjn : ¬ (j : Int) < 4 := by omega
          have hj4 : j = 4 := by omega
          have hE := hw2.out
          rw [hj4, show [x0, x1, x2, x3].take 4 = [x0, x1, x2, x3] from rfl, ← HNX.out] at hE
          have HE := Lib.hid hE
          clear hx2 hj hg2 hz2 hw2 hj4 hE
          go_wp2_with fail
          go_roundg (g1 - 1)
          case measure => have := HK.out; have := HG1.out; omega
          case rel =>
            refine ⟨by have := HK.out; have := HG1.out; omega, num_eq (by have := HK.out; have := HG1.out; omega), ?_, hs2, XS.out⟩
            rw [show l.length - (g1 - 1) = k + 1 from by have := HK.out; have := HG1.out; omega]
            exact HE
        · have hjn : (j : Int) < 4 := by omega
          have hj1 : j < 4 := by omega
          obtain ⟨y, hyy⟩ : ∃ y, [x0, x1, x2, x3][j]? = some y := ⟨_, List.getElem?_eq_getElem (by simpa using hj1)⟩
          obtain ⟨hy0, hy1⟩ := HIN.out y (List.mem_of_getElem? hyy)
          have hnx := numB_take hyy
          have hln := HFT.out j
          have hlM := HQ0.out
          have hix := arr4_at x0 x1 x2 x3 y j hyy
          have hM2 : ((M0 ++ numB ([x0, x1, x2, x3].take j)).length : Int) + 10 ≤ 1048576 := by rw [List.length_append]; omega
          obtain ⟨M2, hMM⟩ : ∃ M2, M2 = M0 ++ numB ([x0, x1, x2, x3].take j) := ⟨_, rfl⟩
          rw [← hMM] at hM2 hw2
          have HW2 := hw2
          have HS2 := hs2
          have HNX2 : Hid (M0 ++ numB ([x0, x1, x2, x3].take (j + 1)) = M2 ++ putL y.toNat) := Lib.hid (by rw [hnx, ← List.append_assoc, ← hMM])
          have HJ := Lib.hid (And.intro hj (And.intro hg2 hz2))
          clear hx2 hj hg2 hz2 hw2 hs2 hyy hnx hln hlM hMM hj1
          go_wp2_with fail
          (with_reducible refine (cWN_fit g 1048576 M2 y hy0 hy1 hM2 _ HW2.out).mono ?_)
          rintro e w60 ⟨rfl, hW, hb60⟩
          have X60 : Hid (Ext w w60) := Lib.hid (have hX := XS.out; Below.trans hX (hb60.below (Ext.size hX) (fun k hk hh => by have h2 : g ≤ k := hh; omega)))
          have HS60 := Lib.hid (HS2.out.but hb60 (fun k hk => by have h2 : g ≤ k := hk; omega))
          have HW60 := Lib.hid hW
          clear hW hb60 HW2 HS2 XS
          go_wp2_with fail
          go_roundg (gk - 1)
          case measure => have := HJ.out; omega
          case rel =>
            refine ⟨by have := HJ.out; omega, num_eq (by have := HJ.out; omega), ?_, HS60, X60.out⟩
            rw [show 4 - (gk - 1) = j + 1 from by have := HJ.out; omega, HNX2.out]
            exact HW60
theorem hopBytes_any (A : Option Addr) (c : Nat) (l : List (Int × Int × Int × Int)) (w : World) (hs : Sl w 4 A l.length c (l.flatMap hopC)) (hw : ∀ x ∈ l, FitsH x) : Calls Try.prog 51 #[.slice A l.length c] w (ByErr (lstB l) (chkH l).1 w) := by
  by_cases hc : (chkH l).1 = 0
  · exact hopBytes_ok A c l _ _ w hs hw rfl hc
  · exact hopBytes_chk A c l _ _ w hs hw rfl hc
set_option maxRecDepth 100000 in
set_option maxHeartbeats 2000000 in
theorem rBytes15_chk (A : Option Addr) (c : Nat) (l : List (Int × Int × Int × Int)) (f1 f2 : Int) (w : World) (hs : Sl w 4 A l.length c (l.flatMap hopC)) (hw : ∀ x ∈ l, FitsH x) (hf : (f1, f2) = chkH l) (hc : f1 ≠ 0) :
    Calls Try.prog 52 #[.slice A l.length c] w (ByErr (lstB l) f1 w) := by
  have s1 := hs.small
  have e7 : (f1 != 0) = true := by simpa using hc
  have hB : lstB l = [] := by unfold lstB; rw [← hf]; exact if_neg hc
  rw [hB]
  have HS := Lib.hid hs.low
  have Hf := Lib.hid hf
  have HW := Lib.hid hw
  clear hs hf hw
  go_enter Try.func52, Try.ntmps52
  go_wp2_with fail
  (with_reducible refine (rCheck15_ev A l.length c l f1 f2 _ (HS.out.ext (by repeat (first | with_reducible exact Ext.refl _ | with_reducible refine Ext.drew ?_ | with_reducible refine Ext.drewN ?_ _ | with_reducible refine Ext.alloc ?_ _ | with_reducible refine Ext.setCell ?_ (by first | omega | (simp; done) | (simp; omega)) _))).sl (fits_t HW.out) Hf.out).mono ?_)
  rintro e w1 ⟨rfl, hx1⟩
  have z1 := hx1.size
  try simp at z1
  replace HS := Lib.hid (HS.out.ext (Ext.trans (by repeat (first | with_reducible exact Ext.refl _ | with_reducible refine Ext.drew ?_ | with_reducible refine Ext.drewN ?_ _ | with_reducible refine Ext.alloc ?_ _ | with_reducible refine Ext.setCell ?_ (by first | omega | (simp; done) | (simp; omega)) _)) hx1))
  have X1 : Hid (Ext w w1) := Lib.hid (Ext.trans (by repeat (first | with_reducible exact Ext.refl w | with_reducible refine Ext.drew ?_ | with_reducible refine Ext.drewN ?_ _ | with_reducible refine Ext.alloc ?_ _ | with_reducible refine Ext.setCell ?_ (by first | omega | (simp; done) | (simp; omega)) _)) hx1)
  clear hx1 z1
  go_wp2_with fail
  refine bodyPost_ret (v := .tuple #[.slice none 0 0, .int .i64 f1]) (by simp [results, Try.results52, go_sem, World.cell?_alloc_past]; try rfl) rfl ⟨_, rfl, World.ownsRow_nil _ _ _ _, ?_⟩
  exact (by repeat (first | with_reducible exact X1.out | with_reducible refine Ext.drew ?_ | with_reducible refine Ext.drewN ?_ _ | with_reducible refine Ext.alloc ?_ _ | with_reducible refine Ext.setCell ?_ (by first | omega | (simp; done) | (simp; omega)) _))
set_option maxRecDepth 100000 in
set_option maxHeartbeats 2000000 in
theorem rBytes15_ok (A : Option Addr) (c : Nat) (l : List (Int × Int × Int × Int)) (f1 f2 : Int) (w : World) (hs : Sl w 4 A l.length c (l.flatMap hopC)) (hw : ∀ x ∈ l, FitsH x) (hf : (f1, f2) = chkH l) (hc : f1 = 0) :
    Calls Try.prog 52 #[.slice A l.length c] w (ByErr (lstB l) f1 w) := by
  have s1 := hs.small
  subst hc
  have hch : (chkH l).1 = 0 := by rw [← hf]
  have hB : lstB l = putL l.length ++ l.flatMap hopB := by unfold lstB; exact if_pos hch
  rw [hB]
  have h4096 := (chkH_zero hch).2.1
  have HC := Lib.hid hch
  clear hB hch
  obtain ⟨i0, hi, hz0, hz1, hz2⟩ := info_parts u8_info
  have HS := Lib.hid hs.low
  have Hf := Lib.hid hf
  have HW := Lib.hid hw
  clear hs hf hw
  go_enter Try.func52, Try.ntmps52
  go_wp2_with fail
  (with_reducible refine (rCheck15_ev A l.length c l 0 f2 _ (HS.out.ext (by repeat (first | with_reducible exact Ext.refl _ | with_reducible refine Ext.drew ?_ | with_reducible refine Ext.drewN ?_ _ | with_reducible refine Ext.alloc ?_ _ | with_reducible refine Ext.setCell ?_ (by first | omega | (simp; done) | (simp; omega)) _))).sl (fits_t HW.out) Hf.out).mono ?_)
  rintro e w1 ⟨rfl, hx1⟩
  have z1 := hx1.size
  try simp at z1
  replace HS := Lib.hid (HS.out.ext (Ext.trans (by repeat (first | with_reducible exact Ext.refl _ | with_reducible refine Ext.drew ?_ | with_reducible refine Ext.drewN ?_ _ | with_reducible refine Ext.alloc ?_ _ | with_reducible refine Ext.setCell ?_ (by first | omega | (simp; done) | (simp; omega)) _)) hx1))
  have X1 : Hid (Ext w w1) := Lib.hid (Ext.trans (by repeat (first | with_reducible exact Ext.refl w | with_reducible refine Ext.drew ?_ | with_reducible refine Ext.drewN ?_ _ | with_reducible refine Ext.alloc ?_ _ | with_reducible refine Ext.setCell ?_ (by first | omega | (simp; done) | (simp; omega)) _)) hx1)
  clear hx1 z1
  go_wp2_with fail
  have CP := Lib.hid (fun w => rPut_any l.length (by omega) w)
  have hcv : IntKind.u64.wrap (l.length : Int) = (l.length : Int) := IntWalk.u64_in _ (by omega)
  have hx0 := Ext.size X1.out
  (with_reducible refine (CP.out _).mono ?_)
  rintro e w2 ⟨v1, rfl, hO, hx2⟩
  have z2 := hx2.size
  try simp at z2
  replace HS := Lib.hid (HS.out.ext (Ext.trans (by repeat (first | with_reducible exact Ext.refl _ | with_reducible refine Ext.drew ?_ | with_reducible refine Ext.drewN ?_ _ | with_reducible refine Ext.alloc ?_ _ | with_reducible refine Ext.setCell ?_ (by first | omega | (simp; done) | (simp; omega)) _)) hx2))
  have X2 : Hid (Ext w w2) := Lib.hid (Ext.trans (by repeat (first | with_reducible exact X1.out | with_reducible refine Ext.drew ?_ | with_reducible refine Ext.drewN ?_ _ | with_reducible refine Ext.alloc ?_ _ | with_reducible refine Ext.setCell ?_ (by first | omega | (simp; done) | (simp; omega)) _)) hx2)
  have HO := Lib.hid hO
  clear X1 hx2 z2 hO
  have HO0 : Hid (World.ownsRow _ w.heap.size 5 1 v1 (putL l.length ++ (l.take 0).flatMap hopB).length (by_ (putL l.length ++ (l.take 0).flatMap hopB))) := Lib.hid (by have h := own_lower HO.out (b := w.heap.size) (by have := hx0; (try simp at this); omega); simpa using h)
  clear hcv
  go_wp2_with fail
  go_loopg [6, 7] l.length (fun gh q i wx => gh ≤ l.length ∧ i = .int .i64 ((l.length - gh : Nat) : Int) ∧ Hid (wx.ownsRow w.heap.size 5 1 q (putL l.length ++ (l.take (l.length - gh)).flatMap hopB).length (by_ (putL l.length ++ (l.take (l.length - gh)).flatMap hopB))) ∧ Hid (SlB w.heap.size wx 4 A l.length c (l.flatMap hopC)) ∧ Ext w wx)
  case atStart => exact ⟨Nat.le_refl _, by simp, by rw [Nat.sub_self]; exact HO0, HS, X2.out⟩
  case round =>
    obtain ⟨hg, hi', hw, hs, hx⟩ := hrel
    obtain ⟨k, hk⟩ : ∃ k, k = l.length - gk := ⟨_, rfl⟩
    rw [← hk] at hi' hw
    subst hi'
    have XR := Lib.hid hx
    have HWk := hw
    have HSk := hs
    by_cases hz : gk = 0
    · have hkn : ¬ (k : Int) < l.length := by omega
      have hkl : k = l.length := by omega
      have HWE : Hid (World.ownsRow wr w.heap.size 5 1 u6 (putL l.length ++ l.flatMap hopB).length (by_ (putL l.length ++ l.flatMap hopB))) := Lib.hid (by have h := hw.out; rw [hkl, List.take_length] at h; exact h)
      clear hx hk hg hz hw hs hkl HWk HSk
      go_wp2_with fail
      refine bodyPost_ret (v := .tuple #[u6, .int .i64 0]) (by simp [results, Try.results52]; try rfl) rfl ⟨u6, rfl, HWE.out, XR.out⟩
    · have hkn : (k : Int) < l.length := by omega
      have hk1 : k < l.length := by omega
      obtain ⟨b1, o1, rfl, hb1, hc1⟩ := hs.out.sl.rec_ hopC_len (show 0 < l.length from by omega)
      have hb1w := hs.out.2 (by omega) b1 o1 none rfl
      obtain ⟨x, hxx⟩ : ∃ x, x = l[k] := ⟨_, rfl⟩
      have hlk : l[k]? = some x := by rw [hxx]; exact List.getElem?_eq_getElem hk1
      have x_0 := hc1 k _ hlk 0 _ rfl
      have x_1 := hc1 k _ hlk 1 _ rfl
      have x_2 := hc1 k _ hlk 2 _ rfl
      have x_3 := hc1 k _ hlk 3 _ rfl
      have hr := chkH_may HC.out x (List.mem_of_getElem? hlk)
      have hM := lst_fit HC.out k
      have ht := hopC_take hlk
      obtain ⟨M0, hM0⟩ : ∃ M0, M0 = putL l.length ++ (l.take k).flatMap hopB := ⟨_, rfl⟩
      rw [← hM0] at hM HWk
      have hnext : putL l.length ++ (l.take (k + 1)).flatMap hopB = M0 ++ hopB x := by rw [ht, List.flatMap_append, ← List.append_assoc, ← hM0]; simp
      have hin := hop_in hr
      have hft := hop_fit hr
      obtain ⟨x0, x1, x2, x3⟩ := x
      simp only at x_0 x_1 x_2 x_3
      rw [Nat.add_zero] at x_0
      rw [← Nat.add_assoc] at x_1 x_2 x_3
      have HIN : Hid (∀ y ∈ [x0, x1, x2, x3], 0 ≤ y ∧ y < 9223372036854775808) := Lib.hid hin
      have HFT : Hid (∀ j, (numB ([x0, x1, x2, x3].take j)).length ≤ 40) := Lib.hid hft
      have HQ0 := Lib.hid hM
      have HNX : Hid (_ = M0 ++ numB [x0, x1, x2, x3]) := Lib.hid hnext
      have HK := Lib.hid (And.intro hk (And.intro hg hz))
      obtain ⟨g1, hg1⟩ : ∃ g, g = gk := ⟨_, rfl⟩
      have HG1 := Lib.hid hg1
      clear hx hk hg hz hc1 hxx hlk hr hM ht hnext hw hs hM0 hg1 hin hft
      obtain ⟨W1, hW1⟩ : ∃ W, W = wr := ⟨_, rfl⟩
      subst hW1
      have rx : b1 < W1.heap.size := hb1
      have rxa : b1 < W1.heap.size + 1 := by omega
      have rxb : b1 < W1.heap.size + 1 + 1 := by omega
      have rxc : b1 < W1.heap.size + 1 + 1 + 1 := by omega
      have rxn : ¬ b1 = W1.heap.size := by omega
      go_wp2_with fail
      refine wp_region_held_drew (S := fun w' => w'.cell? ⟨b1, o1 + k * 4, none⟩ = some (.int .i64 x0) ∧ w'.cell? ⟨b1, o1 + k * 4 + 1, none⟩ = some (.int .i64 x1) ∧ w'.cell? ⟨b1, o1 + k * 4 + 2, none⟩ = some (.int .i64 x2) ∧ w'.cell? ⟨b1, o1 + k * 4 + 3, none⟩ = some (.int .i64 x3)) (by kernel_rfl) (by first | exact ⟨x_0, x_1, x_2, x_3⟩ | (simp [go_sem, World.cell?_alloc_past, x_0, x_1, x_2, x_3, rx, rxa, rxb, rxc, rxn]; done)) (fun hHeld => ?_)
      (refine' take_in 0 rfl (by kernel_rfl) (by kernel_rfl) (by kernel_rfl) (fun _ _ _ h => h) (by rfl) (by assumption) ?_ ?_; rotate_left; focus (intro w hSw; (try dsimp only at hSw); go_simp; try with_reducible rfl)); try simp only [Act.put, List.setIfInBounds_toArray, List.set_cons_zero, List.set_cons_succ]
      (refine' take_in 1 rfl (by kernel_rfl) (by kernel_rfl) (by kernel_rfl) (fun _ _ _ h => h) (by rfl) (by assumption) ?_ ?_; rotate_left; focus (intro w hSw; (try dsimp only at hSw); go_simp; try with_reducible rfl)); try simp only [Act.put, List.setIfInBounds_toArray, List.set_cons_zero, List.set_cons_succ]
      (refine' take_in 2 rfl (by kernel_rfl) (by kernel_rfl) (by kernel_rfl) (fun _ _ _ h => h) (by rfl) (by assumption) ?_ ?_; rotate_left; focus (intro w hSw; (try dsimp only at hSw); go_simp; try with_reducible rfl)); try simp only [Act.put, List.setIfInBounds_toArray, List.set_cons_zero, List.set_cons_succ]
      (refine' take_in 3 rfl (by kernel_rfl) (by kernel_rfl) (by kernel_rfl) (fun _ _ _ h => h) (by rfl) (by assumption) ?_ ?_; rotate_left; focus (intro w hSw; (try dsimp only at hSw); go_simp; try with_reducible rfl)); try simp only [Act.put, List.setIfInBounds_toArray, List.set_cons_zero, List.set_cons_succ]
      (refine' take_in 4 rfl (by kernel_rfl) (by kernel_rfl) (by kernel_rfl) (fun _ _ _ h => h) (by rfl) (by assumption) ?_ ?_; rotate_left; focus (intro w hSw; (try dsimp only at hSw); go_simp; try with_reducible rfl)); try simp only [Act.put, List.setIfInBounds_toArray, List.set_cons_zero, List.set_cons_succ]
      (refine' take_in 5 rfl (by kernel_rfl) (by kernel_rfl) (by kernel_rfl) (fun _ _ _ h => h) (by rfl) (by assumption) ?_ ?_; rotate_left; focus (intro w hSw; (try dsimp only at hSw); go_simp; try with_reducible rfl)); try simp only [Act.put, List.setIfInBounds_toArray, List.set_cons_zero, List.set_cons_succ]
      (refine' take_in 6 rfl (by kernel_rfl) (by kernel_rfl) (by kernel_rfl) (fun _ _ _ h => h) (by rfl) (by assumption) ?_ ?_; rotate_left; focus (intro w hSw; (try dsimp only at hSw); go_simp; try with_reducible rfl)); try simp only [Act.put, List.setIfInBounds_toArray, List.set_cons_zero, List.set_cons_succ]
      (refine' take_in 7 rfl (by kernel_rfl) (by kernel_rfl) (by kernel_rfl) (fun _ _ _ h => h) (by rfl) (by assumption) ?_ ?_; rotate_left; focus (intro w hSw; (try dsimp only at hSw); go_simp; try with_reducible rfl)); try simp only [Act.put, List.setIfInBounds_toArray, List.set_cons_zero, List.set_cons_succ]
      (refine' take_in 8 rfl (by kernel_rfl) (by kernel_rfl) (by kernel_rfl) (fun _ _ _ h => h) (by rfl) (by assumption) ?_ ?_; rotate_left; focus (intro w hSw; (try dsimp only at hSw); go_simp; try with_reducible rfl)); try simp only [Act.put, List.setIfInBounds_toArray, List.set_cons_zero, List.set_cons_succ]
      (refine' take_in 9 rfl (by kernel_rfl) (by kernel_rfl) (by kernel_rfl) (fun _ _ _ h => h) (by rfl) (by assumption) ?_ ?_; rotate_left; focus (intro w hSw; (try dsimp only at hSw); go_simp; try with_reducible rfl)); try simp only [Act.put, List.setIfInBounds_toArray, List.set_cons_zero, List.set_cons_succ]
      (refine' take_in 10 rfl (by kernel_rfl) (by kernel_rfl) (by kernel_rfl) (fun _ _ _ h => h) (by rfl) (by assumption) ?_ ?_; rotate_left; focus (intro w hSw; (try dsimp only at hSw); go_simp; try with_reducible rfl)); try simp only [Act.put, List.setIfInBounds_toArray, List.set_cons_zero, List.set_cons_succ]
      (refine' take_in 11 rfl (by kernel_rfl) (by kernel_rfl) (by kernel_rfl) (fun _ _ _ h => h) (by rfl) (by assumption) ?_ ?_; rotate_left; focus (intro w hSw; (try dsimp only at hSw); go_simp; try with_reducible rfl)); try simp only [Act.put, List.setIfInBounds_toArray, List.set_cons_zero, List.set_cons_succ]
      (refine' take_in 12 rfl (by kernel_rfl) (by kernel_rfl) (by kernel_rfl) (fun _ _ _ h => h) (by rfl) (by assumption) ?_ ?_; rotate_left; focus (intro w hSw; (try dsimp only at hSw); go_simp; try with_reducible rfl)); try simp only [Act.put, List.setIfInBounds_toArray, List.set_cons_zero, List.set_cons_succ]
      (refine' take_in 13 rfl (by kernel_rfl) (by kernel_rfl) (by kernel_rfl) (fun _ _ _ h => h) (by rfl) (by assumption) ?_ ?_; rotate_left; focus (intro w hSw; (try dsimp only at hSw); go_simp; try with_reducible rfl)); try simp only [Act.put, List.setIfInBounds_toArray, List.set_cons_zero, List.set_cons_succ]
      (refine' take_in 14 rfl (by kernel_rfl) (by kernel_rfl) (by kernel_rfl) (fun _ _ _ h => h) (by rfl) (by assumption) ?_ ?_; rotate_left; focus (intro w hSw; (try dsimp only at hSw); go_simp; try with_reducible rfl)); try simp only [Act.put, List.setIfInBounds_toArray, List.set_cons_zero, List.set_cons_succ]
      (refine' take_in 15 rfl (by kernel_rfl) (by kernel_rfl) (by kernel_rfl) (fun _ _ _ h => h) (by rfl) (by assumption) ?_ ?_; rotate_left; focus (intro w hSw; (try dsimp only at hSw); go_simp; try with_reducible rfl)); try simp only [Act.put, List.setIfInBounds_toArray, List.set_cons_zero, List.set_cons_succ]
      (refine' take_in 16 rfl (by kernel_rfl) (by kernel_rfl) (by kernel_rfl) (fun _ _ _ h => h) (by rfl) (by assumption) ?_ ?_; rotate_left; focus (intro w hSw; (try dsimp only at hSw); go_simp; try with_reducible rfl)); try simp only [Act.put, List.setIfInBounds_toArray, List.set_cons_zero, List.set_cons_succ]
      (refine' take_in 17 rfl (by kernel_rfl) (by kernel_rfl) (by kernel_rfl) (fun _ _ _ h => h) (by rfl) (by assumption) ?_ ?_; rotate_left; focus (intro w hSw; (try dsimp only at hSw); go_simp; try with_reducible rfl)); try simp only [Act.put, List.setIfInBounds_toArray, List.set_cons_zero, List.set_cons_succ]
      (refine' take_in 18 rfl (by kernel_rfl) (by kernel_rfl) (by kernel_rfl) (fun _ _ _ h => h) (by rfl) (by assumption) ?_ ?_; rotate_left; focus (intro w hSw; (try dsimp only at hSw); go_simp; try with_reducible rfl)); try simp only [Act.put, List.setIfInBounds_toArray, List.set_cons_zero, List.set_cons_succ]
      (refine' take_in 19 rfl (by kernel_rfl) (by kernel_rfl) (by kernel_rfl) (fun _ _ _ h => h) (by rfl) (by assumption) ?_ ?_; rotate_left; focus (intro w hSw; (try dsimp only at hSw); go_simp; try with_reducible rfl)); try simp only [Act.put, List.setIfInBounds_toArray, List.set_cons_zero, List.set_cons_succ]
      refine' next_in 20 rfl (by kernel_rfl) (by rfl) (fun K hK => ?_)
      go_simp
      refine hK.out _ _ (by (first | exact ⟨x_0, x_1, x_2, x_3⟩ | (simp [go_sem, World.cell?_alloc_past, x_0, x_1, x_2, x_3, rx, rxa, rxb, rxc, rxn]; done))) (fun hHeld => ?_); clear hK K; try simp only [Act.put, List.setIfInBounds_toArray, List.set_cons_zero, List.set_cons_succ]
      (refine' take_in 21 rfl (by kernel_rfl) (by kernel_rfl) (by kernel_rfl) (fun _ _ _ h => h) (by rfl) (by assumption) ?_ ?_; rotate_left; focus (intro w hSw; (try dsimp only at hSw); go_simp; try with_reducible rfl)); try simp only [Act.put, List.setIfInBounds_toArray, List.set_cons_zero, List.set_cons_succ]
      refine wpAnyH_done (by kernel_rfl) ?_ _
      go_wp2_with fail
      have HT0 := Lib.hid (sl_new W1 3 1 #[.int .i64 x0, .int .i64 x1, .int .i64 x2, .int .i64 x3] 4 rfl (by decide))
      go_loopg [6, 9] 4 (fun gh q i wx => gh ≤ 4 ∧ i = .int .i64 ((4 - gh : Nat) : Int) ∧ Hid (∀ k, q.ownBlock = some k → k ≠ W1.heap.size) ∧ Hid (wx.ownsRow w.heap.size 5 1 q (M0 ++ numB ([x0, x1, x2, x3].take (4 - gh))).length (by_ (M0 ++ numB ([x0, x1, x2, x3].take (4 - gh))))) ∧ Hid (SlB w.heap.size wx 4 (some ⟨b1, o1, none⟩) l.length c (l.flatMap hopC)) ∧ Hid (Sl wx 1 (some ⟨W1.heap.size, 0, none⟩) 4 4 (iv .i64 [x0, x1, x2, x3])) ∧ Ext w wx)
      case atStart => exact ⟨Nat.le_refl _, by simp, Lib.hid (fun k hk => by have := (World.ownsRow.lt HWk.out k hk).2; omega), Lib.hid (by rw [show M0 ++ numB ([x0, x1, x2, x3].take (4 - 4)) = M0 from by simp [numB]]; exact own_keep HWk.out (by repeat (first | with_reducible exact Ext.refl _ | with_reducible refine Ext.drew ?_ | with_reducible refine Ext.drewN ?_ _ | with_reducible refine Ext.alloc ?_ _ | with_reducible refine Ext.setCell ?_ (by first | omega | (simp; done) | (simp; omega)) _))), Lib.hid (HSk.out.ext (by repeat (first | with_reducible exact Ext.refl _ | with_reducible refine Ext.drew ?_ | with_reducible refine Ext.drewN ?_ _ | with_reducible refine Ext.alloc ?_ _ | with_reducible refine Ext.setCell ?_ (by first | omega | (simp; done) | (simp; omega)) _))), Lib.hid (by exact HT0.out.ext (by repeat (first | with_reducible exact Ext.refl _ | with_reducible refine Ext.drew ?_ | with_reducible refine Ext.drewN ?_ _ | with_reducible refine Ext.alloc ?_ _ | with_reducible refine Ext.setCell ?_ (by first | omega | (simp; done) | (simp; omega)) _))), (by repeat (first | with_reducible exact XR.out | with_reducible refine Ext.drew ?_ | with_reducible refine Ext.drewN ?_ _ | with_reducible refine Ext.alloc ?_ _ | with_reducible refine Ext.setCell ?_ (by first | omega | (simp; done) | (simp; omega)) _))⟩
      case round =>
        obtain ⟨hg2, hi2, hne2, hw2, hs2, hT2, hx2⟩ := hrel
        obtain ⟨j, hj⟩ : ∃ j, j = 4 - gk := ⟨_, rfl⟩
        rw [← hj] at hi2 hw2
        subst hi2
        have XS := Lib.hid hx2
        by_cases hz2 : gk = 0
        · have hjn : ¬ (j : Int) < 4 := by omega
          have hj4 : j = 4 := by omega
          have hE := hw2.out
          rw [hj4, show [x0, x1, x2, x3].take 4 = [x0, x1, x2, x3] from rfl, ← HNX.out] at hE
          have HE := Lib.hid hE
          clear hx2 hj hg2 hz2 hw2 hj4 hE
          go_wp2_with fail
          go_roundg (g1 - 1)
          case measure => have := HK.out; have := HG1.out; omega
          case rel =>
            refine ⟨by have := HK.out; have := HG1.out; omega, num_eq (by have := HK.out; have := HG1.out; omega), ?_, hs2, XS.out⟩
            rw [show l.length - (g1 - 1) = k + 1 from by have := HK.out; have := HG1.out; omega]
            exact HE
        · have hjn : (j : Int) < 4 := by omega
          have hj1 : j < 4 := by omega
          obtain ⟨y, hyy⟩ : ∃ y, [x0, x1, x2, x3][j]? = some y := ⟨_, List.getElem?_eq_getElem (by simpa using hj1)⟩
          obtain ⟨hy0, hy1⟩ := HIN.out y (List.mem_of_getElem? hyy)
          have hnx := numB_take hyy
          have hln := HFT.out j
          have hlM := HQ0.out
          obtain ⟨Y, rfl⟩ : ∃ Y : Nat, y = (Y : Int) := ⟨y.toNat, by omega⟩
          have y_0 : wr.cell? ⟨W1.heap.size, j, none⟩ = some (.int .i64 (Y : Int)) := by
            obtain ⟨b9, o9, e9, _, hc9⟩ := hT2.out.at_ (by omega)
            injection e9 with e9
            injection e9 with e9a e9b
            subst e9a; subst e9b
            have h := hc9 j (.int .i64 (Y : Int)) (by unfold iv; rw [List.getElem?_map, hyy]; rfl)
            simpa using h
          have ry := cell_lt y_0
          have hcv : IntKind.u64.wrap (Y : Int) = (Y : Int) := IntWalk.u64_in _ (by omega)
          have hlt : (M0 ++ numB ([x0, x1, x2, x3].take j)).length + (putL Y).length < 1099511627776 := by
            have := putL_ten (N := Y) (by omega)
            rw [List.length_append]
            omega
          obtain ⟨M2, hMM⟩ : ∃ M2, M2 = M0 ++ numB ([x0, x1, x2, x3].take j) := ⟨_, rfl⟩
          rw [← hMM] at hlt hw2
          have HNX2 : Hid (M0 ++ numB ([x0, x1, x2, x3].take (j + 1)) = M2 ++ putL Y) := Lib.hid (by rw [hnx, ← List.append_assoc, ← hMM]; simp)
          have HLn := Lib.hid hlt
          have HJ := Lib.hid (And.intro hj (And.intro hg2 hz2))
          have CP := Lib.hid (fun w => rPut_any Y (by omega) w)
          have HW2 := hw2
          have HS2 := hs2
          have HT2 := hT2
          have HN2 := hne2
          clear hne2 hx2 hj hg2 hz2 hw2 hs2 hT2 hyy hnx hln hlM hMM hj1 hlt hy0 hy1
          go_wp2_with fail
          (with_reducible refine (CP.out _).mono ?_)
          rintro r w5 ⟨v1', rfl, h5, hx5⟩
          obtain ⟨A1, c1, rfl, s5⟩ := own_parts h5
          have HO5 := Lib.hid (own_keep HW2.out hx5)
          have hS5 := Lib.hid s5
          have XS5 := Lib.hid (Ext.trans XS.out hx5)
          have hbs := Lib.hid (Ext.size XS5.out)
          have HS5 := Lib.hid (HS2.out.ext hx5)
          have HT5 := Lib.hid (HT2.out.ext hx5)
          have hx5' := Lib.hid hx5
          clear h5 hx5 s5 CP HW2 HS2 HT2 XS
          have hq5 : W1.heap.size < w5.heap.size := by have := Ext.size hx5'.out; omega
          go_wp2_with (at_builtin; refine wpList_append_slB w5 rfl _ _ 56 rfl w.heap.size 5 i0 (.int .u8 0) 1 1 Try.underlying56 hi hz0 hz1 hz2 rfl (by decide) _ _ _ (by rfl) HO5.out A1 _ c1 (by_ (putL Y)) (by rfl) hS5.out by_one HLn.out (by decide) hbs.out ?_; intro v2 w6 hown6 hb6 hf6; have H6 := Lib.hid (And.intro hown6 (And.intro hb6 hf6)); clear hown6 hb6 hf6)
          go_roundg (gk - 1)
          case measure => have := HJ.out; omega
          case rel =>
            have hlo := World.ownsRow.lt HO5.out
            refine ⟨by have := HJ.out; omega, num_eq (by have := HJ.out; omega), Lib.hid (fun k hk => ?_), ?_, Lib.hid (HS5.out.but H6.out.2.1 (fun k hk => (hlo k hk).1)), Lib.hid (HT5.out.butAll H6.out.2.1 (fun b o s e hk => ?_)), Below.trans XS5.out (H6.out.2.1.below hbs.out (fun k hk hh => by have := (hlo k hh).1; omega))⟩
            · rcases H6.out.2.2 k hk with h | h
              · exact HN2.out k h
              · omega
            · rw [show 4 - (gk - 1) = j + 1 from by have := HJ.out; omega, HNX2.out]
              have h6 := H6.out.1
              rw [by_append, ← List.length_append] at h6
              exact Lib.hid h6
            · injection e with e
              injection e with e1
              exact HN2.out b hk e1.symm
theorem rBytes15_any (A : Option Addr) (c : Nat) (l : List (Int × Int × Int × Int)) (w : World) (hs : Sl w 4 A l.length c (l.flatMap hopC)) (hw : ∀ x ∈ l, FitsH x) : Calls Try.prog 52 #[.slice A l.length c] w (ByErr (lstB l) (chkH l).1 w) := by
  by_cases hc : (chkH l).1 = 0
  · exact rBytes15_ok A c l _ _ w hs hw rfl hc
  · exact rBytes15_chk A c l _ _ w hs hw rfl hc
end Go.Proofs.Ytjdpgapmdmpjjaa
