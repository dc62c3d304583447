/- reward: credits' bytes, on both sides. Conditions stand in each lemma. -/
import Derived.Test.YtlgjdeggbcgbnaaRew7
import Derived.Test.YtlgjdeggbcgbnaaCod
import Derived.Test.YtlgjdeggbcgbnaaRefW
import Derived.Test.YtlgjdeggbcgbnaaKitC
import Derived.Test.YtlgjdeggbcgbnaaBytesM
set_option linter.unusedVariables false
set_option linter.unusedSimpArgs false
namespace Go.Proofs.Ytlgjdeggbcgbnaa
open Go.RowKit Go.ChangeShapes Go.WideShapes Go.Deep

/-- the bytes of numbers, one behind the other -/
def numB (l : List Int) : List Nat := l.flatMap fun n => putL n.toNat
theorem numB_take {l : List Int} {k : Nat} {x : Int} (h : l[k]? = some x) : numB (l.take (k + 1)) = numB (l.take k) ++ putL x.toNat := by
  obtain ⟨hk, hx⟩ := List.getElem?_eq_some_iff.1 h
  unfold numB
  rw [List.take_add_one, h, List.flatMap_append]
  simp
theorem numB_len {l : List Int} (h : ∀ x ∈ l, x < 18446744073709551616) : (numB l).length ≤ 10 * l.length := by
  induction l with
  | nil => simp [numB]
  | cons x l ih =>
    have h1 := putL_ten (N := x.toNat) (by have := h x (List.mem_cons_self ..); omega)
    have h2 := ih (fun y hy => h y (List.mem_cons_of_mem _ hy))
    unfold numB at h2 ⊢
    rw [List.flatMap_cons, List.length_append, List.length_cons]
    omega
/-- credits' bytes -/
def crB (l : List Int) : List Nat := if chkR l = 0 then putL l.length ++ numB l else []
theorem crB_fit {l : List Int} (hw : ∀ x ∈ l, Word x) (h : chkR l = 0) (k : Nat) : (putL l.length ++ numB (l.take k)).length ≤ 650 := by
  obtain ⟨_, h1, _⟩ := chkR_zero h
  have h2 := numB_len (l := l.take k) (fun x hx => (hw x (List.mem_of_mem_take hx)).2)
  have h3 : (l.take k).length ≤ 64 := by rw [List.length_take]; omega
  have h4 := putL_ten (N := l.length) (by omega)
  rw [List.length_append]
  omega
set_option maxRecDepth 100000 in
set_option maxHeartbeats 2000000 in
theorem rewBytes_chk (A : Option Addr) (c : Nat) (l : List Int) (q : Int) (w : World) (hs : Sl w 1 A l.length c (iv .u64 l)) (hw : ∀ x ∈ l, Word x) (hf : chkR l = q) (hc : q ≠ 0) :
    Calls Try.prog 24 #[.slice A l.length c] w (ByErr (crB l) q w) := by
  have s1 := hs.small
  have e7 : (q != 0) = true := by simpa using hc
  have hB : crB l = [] := by unfold crB; rw [hf]; exact if_neg hc
  rw [hB]
  have HS := Lib.hid hs.low
  have Hf := Lib.hid hf
  have HW := Lib.hid hw
  clear hs hf hw
  go_enter Try.func24, Try.ntmps24
  go_wp2_with fail
  (with_reducible refine (rewCheck_ev A l.length c l q _ (HS.out.ext (by repeat (first | with_reducible exact Ext.refl _ | with_reducible refine Ext.drew ?_ | with_reducible refine Ext.drewN ?_ _ | with_reducible refine Ext.alloc ?_ _ | with_reducible refine Ext.setCell ?_ (by first | omega | (simp; done) | (simp; omega)) _))).sl HW.out Hf.out).mono ?_)
  rintro e w1 ⟨rfl, hx1⟩
  have z1 := hx1.size
  try simp at z1
  replace HS := Lib.hid (HS.out.ext (Ext.trans (by repeat (first | with_reducible exact Ext.refl _ | with_reducible refine Ext.drew ?_ | with_reducible refine Ext.drewN ?_ _ | with_reducible refine Ext.alloc ?_ _ | with_reducible refine Ext.setCell ?_ (by first | omega | (simp; done) | (simp; omega)) _)) hx1))
  have X1 : Hid (Ext w w1) := Lib.hid (Ext.trans (by repeat (first | with_reducible exact Ext.refl w | with_reducible refine Ext.drew ?_ | with_reducible refine Ext.drewN ?_ _ | with_reducible refine Ext.alloc ?_ _ | with_reducible refine Ext.setCell ?_ (by first | omega | (simp; done) | (simp; omega)) _)) hx1)
  clear hx1 z1
  go_wp2_with fail
  refine bodyPost_ret (v := .tuple #[.slice none 0 0, .int .i64 q]) (by simp [results, Try.results24, go_sem, World.cell?_alloc_past]; try rfl) rfl ⟨_, rfl, World.ownsRow_nil _ _ _ _, ?_⟩
  exact (by repeat (first | with_reducible exact X1.out | with_reducible refine Ext.drew ?_ | with_reducible refine Ext.drewN ?_ _ | with_reducible refine Ext.alloc ?_ _ | with_reducible refine Ext.setCell ?_ (by first | omega | (simp; done) | (simp; omega)) _))
set_option maxRecDepth 100000 in
set_option maxHeartbeats 2000000 in
theorem rewBytes_ok (A : Option Addr) (c : Nat) (l : List Int) (q : Int) (w : World) (hs : Sl w 1 A l.length c (iv .u64 l)) (hw : ∀ x ∈ l, Word x) (hf : chkR l = q) (hc : q = 0) :
    Calls Try.prog 24 #[.slice A l.length c] w (ByErr (crB l) q w) := by
  have s1 := hs.small
  subst hc
  have hB : crB l = putL l.length ++ numB l := by unfold crB; exact if_pos hf
  rw [hB]
  obtain ⟨_, h64, _⟩ := chkR_zero hf
  have HFT := Lib.hid (crB_fit hw hf)
  clear hB
  have HS := Lib.hid hs.low
  have Hf := Lib.hid hf
  have HW := Lib.hid hw
  clear hs hf hw
  go_enter Try.func24, Try.ntmps24
  go_wp2_with fail
  (with_reducible refine (rewCheck_ev A l.length c l 0 _ (HS.out.ext (by repeat (first | with_reducible exact Ext.refl _ | with_reducible refine Ext.drew ?_ | with_reducible refine Ext.drewN ?_ _ | with_reducible refine Ext.alloc ?_ _ | with_reducible refine Ext.setCell ?_ (by first | omega | (simp; done) | (simp; omega)) _))).sl HW.out Hf.out).mono ?_)
  rintro e w1 ⟨rfl, hx1⟩
  have z1 := hx1.size
  try simp at z1
  replace HS := Lib.hid (HS.out.ext (Ext.trans (by repeat (first | with_reducible exact Ext.refl _ | with_reducible refine Ext.drew ?_ | with_reducible refine Ext.drewN ?_ _ | with_reducible refine Ext.alloc ?_ _ | with_reducible refine Ext.setCell ?_ (by first | omega | (simp; done) | (simp; omega)) _)) hx1))
  have X1 : Hid (Ext w w1) := Lib.hid (Ext.trans (by repeat (first | with_reducible exact Ext.refl w | with_reducible refine Ext.drew ?_ | with_reducible refine Ext.drewN ?_ _ | with_reducible refine Ext.alloc ?_ _ | with_reducible refine Ext.setCell ?_ (by first | omega | (simp; done) | (simp; omega)) _)) hx1)
  clear hx1 z1
  go_wp2_with fail
  have hx0 := Ext.size X1.out
  (with_reducible refine (cNewWriter_ex 4096 (by decide) (by decide) _).mono ?_)
  rintro e w2 ⟨g, rfl, hg, hW, hx2⟩
  have z2 := hx2.size
  try simp at z2
  replace HS := Lib.hid (HS.out.ext (Ext.trans (by repeat (first | with_reducible exact Ext.refl _ | with_reducible refine Ext.drew ?_ | with_reducible refine Ext.drewN ?_ _ | with_reducible refine Ext.alloc ?_ _ | with_reducible refine Ext.setCell ?_ (by first | omega | (simp; done) | (simp; omega)) _)) hx2))
  have X2 : Hid (Ext w w2) := Lib.hid (Ext.trans (by repeat (first | with_reducible exact X1.out | with_reducible refine Ext.drew ?_ | with_reducible refine Ext.drewN ?_ _ | with_reducible refine Ext.alloc ?_ _ | with_reducible refine Ext.setCell ?_ (by first | omega | (simp; done) | (simp; omega)) _)) hx2)
  have HWr := Lib.hid hW
  clear X1 hx2 z2 hW
  have hgw : w.heap.size ≤ g := by have := Ext.size X2.out; (try simp at hg); have := hx0; omega
  clear hg
  go_wp2_with fail
  (with_reducible refine (cWN_fit g 4096 [] (l.length : Int) (by omega) (by omega) (by simp) _ (HWr.out.ext (by repeat (first | with_reducible exact Ext.refl _ | with_reducible refine Ext.drew ?_ | with_reducible refine Ext.drewN ?_ _ | with_reducible refine Ext.alloc ?_ _ | with_reducible refine Ext.setCell ?_ (by first | omega | (simp; done) | (simp; omega)) _)))).mono ?_)
  rintro e w3 ⟨rfl, hW, hx3⟩
  have hsz3 := hx3.size
  try simp at hsz3
  have z3 := hx3.size
  try simp at z3
  have X3 : Hid (Ext w w3) := Lib.hid (have hX := (show Ext w _ from (by repeat (first | with_reducible exact X2.out | with_reducible refine Ext.drew ?_ | with_reducible refine Ext.drewN ?_ _ | with_reducible refine Ext.alloc ?_ _ | with_reducible refine Ext.setCell ?_ (by first | omega | (simp; done) | (simp; omega)) _))); Below.trans hX (hx3.below (Ext.size hX) (fun k hk hh => by have h2 : g ≤ k := hh; omega)))
  replace HS := Lib.hid ((HS.out.ext (by repeat (first | with_reducible exact Ext.refl _ | with_reducible refine Ext.drew ?_ | with_reducible refine Ext.drewN ?_ _ | with_reducible refine Ext.alloc ?_ _ | with_reducible refine Ext.setCell ?_ (by first | omega | (simp; done) | (simp; omega)) _))).but hx3 (fun k hk => by have h2 : g ≤ k := hk; omega))
  clear HWr
  have HWr := Lib.hid (show Wr _ g 4096 0 (putL l.length) from by simpa using hW)
  clear hsz3 X2 hx3 z3
  have HW0 : Hid (Wr _ g 4096 0 (putL l.length ++ numB (l.take 0))) := Lib.hid (by simpa [numB] using HWr.out)
  go_wp2_with fail
  go_loopg [24] l.length (fun gh i wx => gh ≤ l.length ∧ i = .int .i64 ((l.length - gh : Nat) : Int) ∧ Hid (Wr wx g 4096 0 (putL l.length ++ numB (l.take (l.length - gh)))) ∧ Hid (SlB w.heap.size wx 1 A l.length c (iv .u64 l)) ∧ Ext w wx)
  case atStart => exact ⟨Nat.le_refl _, by simp, by rw [Nat.sub_self]; exact HW0, HS, X3.out⟩
  case round =>
    obtain ⟨hg, hi', hw, hs, hx⟩ := hrel
    obtain ⟨k, hk⟩ : ∃ k, k = l.length - gk := ⟨_, rfl⟩
    rw [← hk] at hi' hw
    subst hi'
    have XR := Lib.hid hx
    by_cases hz : gk = 0
    · have hkn : ¬ (k : Int) < l.length := by omega
      have hkl : k = l.length := by omega
      have HWE : Hid (Wr wr g 4096 0 (putL l.length ++ numB l)) := Lib.hid (by have h := hw.out; rw [hkl, List.take_length] at h; exact h)
      clear hx hk hg hz hw hs hkl
      go_wp2_with fail
      have hrm := Ext.size XR.out
      (with_reducible refine ((show _ from cDone_ok g 4096 _ _ (HWE.out.ext (by repeat (first | with_reducible exact Ext.refl _ | with_reducible refine Ext.drew ?_ | with_reducible refine Ext.drewN ?_ _ | with_reducible refine Ext.alloc ?_ _ | with_reducible refine Ext.setCell ?_ (by first | omega | (simp; done) | (simp; omega)) _))))).mono ?_)
      rintro e w41 ⟨v, rfl, hV, hx41⟩
      have z41 := hx41.size
      try simp at z41
      replace HWE := Lib.hid (HWE.out.ext (Ext.trans (by repeat (first | with_reducible exact Ext.refl _ | with_reducible refine Ext.drew ?_ | with_reducible refine Ext.drewN ?_ _ | with_reducible refine Ext.alloc ?_ _ | with_reducible refine Ext.setCell ?_ (by first | omega | (simp; done) | (simp; omega)) _)) hx41))
      have X41 : Hid (Ext w w41) := Lib.hid (Ext.trans (by repeat (first | with_reducible exact XR.out | with_reducible refine Ext.drew ?_ | with_reducible refine Ext.drewN ?_ _ | with_reducible refine Ext.alloc ?_ _ | with_reducible refine Ext.setCell ?_ (by first | omega | (simp; done) | (simp; omega)) _)) hx41)
      have HV := Lib.hid hV
      clear XR hx41 z41 hV
      go_wp2_with fail
      refine bodyPost_ret (v := .tuple #[v, .int .i64 0]) (by simp [results, Try.results24]; try rfl) rfl ⟨v, rfl, own_lower HV.out ?_, (by repeat (first | with_reducible exact X41.out | with_reducible refine Ext.drew ?_ | with_reducible refine Ext.drewN ?_ _ | with_reducible refine Ext.alloc ?_ _ | with_reducible refine Ext.setCell ?_ (by first | omega | (simp; done) | (simp; omega)) _))⟩
      have h := hrm
      (try simp at h)
      omega
    · have hkn : (k : Int) < l.length := by omega
      have hk1 : k < l.length := by omega
      obtain ⟨b1, o1, rfl, hb1, hc1⟩ := hs.out.sl.cell hk1
      have hb1w := hs.out.2 (by omega) b1 o1 none rfl
      obtain ⟨x, hxx⟩ : ∃ x, x = l.getD k 0 := ⟨_, rfl⟩
      have x_0 := hc1 k hk1
      rw [← hxx] at x_0
      have hlk : l[k]? = some x := by rw [hxx, List.getD_eq_getElem?_getD, List.getElem?_eq_getElem hk1]; rfl
      obtain ⟨hx0', hx1'⟩ := HW.out x (List.mem_of_getElem? hlk)
      have hM := HFT.out k
      have hnx := numB_take hlk
      obtain ⟨M0, hM0⟩ : ∃ M0, M0 = putL l.length ++ numB (l.take k) := ⟨_, rfl⟩
      rw [← hM0] at hM hw
      have HNX : Hid (putL l.length ++ numB (l.take (k + 1)) = M0 ++ putL x.toNat) := Lib.hid (by rw [hnx, ← List.append_assoc, ← hM0])
      have HK := Lib.hid (And.intro hk (And.intro hg hz))
      have HWk := hw
      have HSk := hs
      have hM2 : (M0.length : Int) + 10 ≤ 4096 := by omega
      clear hx hk hg hz hc1 hxx hlk hM hnx hw hs hM0
      go_wp2_with fail
      (with_reducible refine (cWU_fit g 4096 M0 x hx0' hx1' hM2 _ HWk.out).mono ?_)
      rintro e w60 ⟨rfl, hW, hb60⟩
      have X60 : Hid (Ext w w60) := Lib.hid (have hX := XR.out; Below.trans hX (hb60.below (Ext.size hX) (fun k hk hh => by have h2 : g ≤ k := hh; omega)))
      have HS60 := Lib.hid (HSk.out.but hb60 (fun k hk => by have h2 : g ≤ k := hk; omega))
      have HW60 := Lib.hid hW
      clear hW hb60 HWk HSk XR
      go_wp2_with fail
      go_roundg (gk - 1)
      case measure => have := HK.out; omega
      case rel =>
        refine ⟨by have := HK.out; omega, num_eq (by have := HK.out; omega), ?_, HS60, X60.out⟩
        rw [show l.length - (gk - 1) = k + 1 from by have := HK.out; omega, HNX.out]
        exact HW60
theorem rewBytes_any (A : Option Addr) (c : Nat) (l : List Int) (w : World) (hs : Sl w 1 A l.length c (iv .u64 l)) (hw : ∀ x ∈ l, Word x) : Calls Try.prog 24 #[.slice A l.length c] w (ByErr (crB l) (chkR l) w) := by
  by_cases hc : chkR l = 0
  · exact rewBytes_ok A c l _ w hs hw rfl hc
  · exact rewBytes_chk A c l _ w hs hw rfl hc
set_option maxRecDepth 100000 in
set_option maxHeartbeats 2000000 in
theorem rBytes24_chk (A : Option Addr) (c : Nat) (l : List Int) (q : Int) (w : World) (hs : Sl w 1 A l.length c (iv .u64 l)) (hw : ∀ x ∈ l, Word x) (hf : chkR l = q) (hc : q ≠ 0) :
    Calls Try.prog 25 #[.slice A l.length c] w (ByErr (crB l) q w) := by
  have s1 := hs.small
  have e7 : (q != 0) = true := by simpa using hc
  have hB : crB l = [] := by unfold crB; rw [hf]; exact if_neg hc
  rw [hB]
  have HS := Lib.hid hs.low
  have Hf := Lib.hid hf
  have HW := Lib.hid hw
  clear hs hf hw
  go_enter Try.func25, Try.ntmps25
  go_wp2_with fail
  (with_reducible refine (rCheck24_ev A l.length c l q _ (HS.out.ext (by repeat (first | with_reducible exact Ext.refl _ | with_reducible refine Ext.drew ?_ | with_reducible refine Ext.drewN ?_ _ | with_reducible refine Ext.alloc ?_ _ | with_reducible refine Ext.setCell ?_ (by first | omega | (simp; done) | (simp; omega)) _))).sl HW.out Hf.out).mono ?_)
  rintro e w1 ⟨rfl, hx1⟩
  have z1 := hx1.size
  try simp at z1
  replace HS := Lib.hid (HS.out.ext (Ext.trans (by repeat (first | with_reducible exact Ext.refl _ | with_reducible refine Ext.drew ?_ | with_reducible refine Ext.drewN ?_ _ | with_reducible refine Ext.alloc ?_ _ | with_reducible refine Ext.setCell ?_ (by first | omega | (simp; done) | (simp; omega)) _)) hx1))
  have X1 : Hid (Ext w w1) := Lib.hid (Ext.trans (by repeat (first | with_reducible exact Ext.refl w | with_reducible refine Ext.drew ?_ | with_reducible refine Ext.drewN ?_ _ | with_reducible refine Ext.alloc ?_ _ | with_reducible refine Ext.setCell ?_ (by first | omega | (simp; done) | (simp; omega)) _)) hx1)
  clear hx1 z1
  go_wp2_with fail
  refine bodyPost_ret (v := .tuple #[.slice none 0 0, .int .i64 q]) (by simp [results, Try.results25, go_sem, World.cell?_alloc_past]; try rfl) rfl ⟨_, rfl, World.ownsRow_nil _ _ _ _, ?_⟩
  exact (by repeat (first | with_reducible exact X1.out | with_reducible refine Ext.drew ?_ | with_reducible refine Ext.drewN ?_ _ | with_reducible refine Ext.alloc ?_ _ | with_reducible refine Ext.setCell ?_ (by first | omega | (simp; done) | (simp; omega)) _))
set_option maxRecDepth 100000 in
set_option maxHeartbeats 2000000 in
theorem rBytes24_ok (A : Option Addr) (c : Nat) (l : List Int) (q : Int) (w : World) (hs : Sl w 1 A l.length c (iv .u64 l)) (hw : ∀ x ∈ l, Word x) (hf : chkR l = q) (hc : q = 0) :
    Calls Try.prog 25 #[.slice A l.length c] w (ByErr (crB l) q w) := by
  have s1 := hs.small
  subst hc
  have hB : crB l = putL l.length ++ numB l := by unfold crB; exact if_pos hf
  rw [hB]
  obtain ⟨_, h64, _⟩ := chkR_zero hf
  have HFT := Lib.hid (crB_fit hw hf)
  clear hB
  obtain ⟨i0, hi, hz0, hz1, hz2⟩ := info_parts u8_info
  have HS := Lib.hid hs.low
  have Hf := Lib.hid hf
  have HW := Lib.hid hw
  clear hs hf hw
  go_enter Try.func25, Try.ntmps25
  go_wp2_with fail
  (with_reducible refine (rCheck24_ev A l.length c l 0 _ (HS.out.ext (by repeat (first | with_reducible exact Ext.refl _ | with_reducible refine Ext.drew ?_ | with_reducible refine Ext.drewN ?_ _ | with_reducible refine Ext.alloc ?_ _ | with_reducible refine Ext.setCell ?_ (by first | omega | (simp; done) | (simp; omega)) _))).sl HW.out Hf.out).mono ?_)
  rintro e w1 ⟨rfl, hx1⟩
  have z1 := hx1.size
  try simp at z1
  replace HS := Lib.hid (HS.out.ext (Ext.trans (by repeat (first | with_reducible exact Ext.refl _ | with_reducible refine Ext.drew ?_ | with_reducible refine Ext.drewN ?_ _ | with_reducible refine Ext.alloc ?_ _ | with_reducible refine Ext.setCell ?_ (by first | omega | (simp; done) | (simp; omega)) _)) hx1))
  have X1 : Hid (Ext w w1) := Lib.hid (Ext.trans (by repeat (first | with_reducible exact Ext.refl w | with_reducible refine Ext.drew ?_ | with_reducible refine Ext.drewN ?_ _ | with_reducible refine Ext.alloc ?_ _ | with_reducible refine Ext.setCell ?_ (by first | omega | (simp; done) | (simp; omega)) _)) hx1)
  clear hx1 z1
  go_wp2_with fail
  have CP := Lib.hid (fun w => rPut_any l.length (by omega) w)
  have hcv : IntKind.u64.wrap (l.length : Int) = (l.length : Int) := IntWalk.u64_in _ (by omega)
  have hx0 := Ext.size X1.out
  (with_reducible refine (CP.out _).mono ?_)
  rintro e w2 ⟨v1, rfl, hO, hx2⟩
  have z2 := hx2.size
  try simp at z2
  replace HS := Lib.hid (HS.out.ext (Ext.trans (by repeat (first | with_reducible exact Ext.refl _ | with_reducible refine Ext.drew ?_ | with_reducible refine Ext.drewN ?_ _ | with_reducible refine Ext.alloc ?_ _ | with_reducible refine Ext.setCell ?_ (by first | omega | (simp; done) | (simp; omega)) _)) hx2))
  have X2 : Hid (Ext w w2) := Lib.hid (Ext.trans (by repeat (first | with_reducible exact X1.out | with_reducible refine Ext.drew ?_ | with_reducible refine Ext.drewN ?_ _ | with_reducible refine Ext.alloc ?_ _ | with_reducible refine Ext.setCell ?_ (by first | omega | (simp; done) | (simp; omega)) _)) hx2)
  have HO := Lib.hid hO
  clear X1 hx2 z2 hO
  have HO0 : Hid (World.ownsRow _ w.heap.size 5 1 v1 (putL l.length ++ numB (l.take 0)).length (by_ (putL l.length ++ numB (l.take 0)))) := Lib.hid (by have h := own_lower HO.out (b := w.heap.size) (by have := hx0; (try simp at this); omega); simpa [numB] using h)
  clear hcv
  go_wp2_with fail
  go_loopg [5, 6] l.length (fun gh q i wx => gh ≤ l.length ∧ i = .int .i64 ((l.length - gh : Nat) : Int) ∧ Hid (wx.ownsRow w.heap.size 5 1 q (putL l.length ++ numB (l.take (l.length - gh))).length (by_ (putL l.length ++ numB (l.take (l.length - gh))))) ∧ Hid (SlB w.heap.size wx 1 A l.length c (iv .u64 l)) ∧ Ext w wx)
  case atStart => exact ⟨Nat.le_refl _, by simp, by rw [Nat.sub_self]; exact HO0, HS, X2.out⟩
  case round =>
    obtain ⟨hg, hi', hw, hs, hx⟩ := hrel
    obtain ⟨k, hk⟩ : ∃ k, k = l.length - gk := ⟨_, rfl⟩
    rw [← hk] at hi' hw
    subst hi'
    have XR := Lib.hid hx
    by_cases hz : gk = 0
    · have hkn : ¬ (k : Int) < l.length := by omega
      have hkl : k = l.length := by omega
      have HWE : Hid (World.ownsRow wr w.heap.size 5 1 u5 (putL l.length ++ numB l).length (by_ (putL l.length ++ numB l))) := Lib.hid (by have h := hw.out; rw [hkl, List.take_length] at h; exact h)
      clear hx hk hg hz hw hs hkl
      go_wp2_with fail
      refine bodyPost_ret (v := .tuple #[u5, .int .i64 0]) (by simp [results, Try.results25]; try rfl) rfl ⟨u5, rfl, HWE.out, XR.out⟩
    · have hkn : (k : Int) < l.length := by omega
      have hk1 : k < l.length := by omega
      obtain ⟨b1, o1, rfl, hb1, hc1⟩ := hs.out.sl.cell hk1
      have hb1w := hs.out.2 (by omega) b1 o1 none rfl
      obtain ⟨x, hxx⟩ : ∃ x, x = l.getD k 0 := ⟨_, rfl⟩
      have x_0 := hc1 k hk1
      rw [← hxx] at x_0
      have hlk : l[k]? = some x := by rw [hxx, List.getD_eq_getElem?_getD, List.getElem?_eq_getElem hk1]; rfl
      obtain ⟨hx0', hx1'⟩ := HW.out x (List.mem_of_getElem? hlk)
      have hM := HFT.out k
      have hnx := numB_take hlk
      obtain ⟨M0, hM0⟩ : ∃ M0, M0 = putL l.length ++ numB (l.take k) := ⟨_, rfl⟩
      rw [← hM0] at hM hw
      have HNX : Hid (putL l.length ++ numB (l.take (k + 1)) = M0 ++ putL x.toNat) := Lib.hid (by rw [hnx, ← List.append_assoc, ← hM0])
      have HK := Lib.hid (And.intro hk (And.intro hg hz))
      have HWk := hw
      have HSk := hs
      obtain ⟨Y, rfl⟩ : ∃ Y : Nat, x = (Y : Int) := ⟨x.toNat, by omega⟩
      have hlt : M0.length + (putL Y).length < 1099511627776 := by
        have := putL_ten (N := Y) (by omega)
        omega
      have HNX2 : Hid (putL l.length ++ numB (l.take (k + 1)) = M0 ++ putL Y) := Lib.hid (by rw [HNX.out]; simp)
      have HLn := Lib.hid hlt
      have CP := Lib.hid (fun w => rPut_any Y (by omega) w)
      clear hx hk hg hz hc1 hxx hlk hM hnx hw hs hM0 hlt hx0' hx1' HNX
      go_wp2_with fail
      (with_reducible refine (CP.out _).mono ?_)
      rintro r w5 ⟨v1', rfl, h5, hx5⟩
      obtain ⟨A1, c1, rfl, s5⟩ := own_parts h5
      have HO5 := Lib.hid (own_keep HWk.out hx5)
      have hS5 := Lib.hid s5
      have XS5 := Lib.hid (Ext.trans XR.out hx5)
      have hbs := Lib.hid (Ext.size XS5.out)
      have HS5 := Lib.hid (HSk.out.ext hx5)
      clear h5 hx5 s5 CP HWk HSk XR
      go_wp2_with (at_builtin; refine wpList_append_slB w5 rfl _ _ 40 rfl w.heap.size 5 i0 (.int .u8 0) 1 1 Try.underlying40 hi hz0 hz1 hz2 rfl (by decide) _ _ _ (by rfl) HO5.out A1 _ c1 (by_ (putL Y)) (by rfl) hS5.out by_one HLn.out (by decide) hbs.out ?_; intro v2 w6 hown6 hb6 hf6; have H6 := Lib.hid (And.intro hown6 (And.intro hb6 hf6)); clear hown6 hb6 hf6)
      go_roundg (gk - 1)
      case measure => have := HK.out; omega
      case rel =>
        have hlo := World.ownsRow.lt HO5.out
        refine ⟨by have := HK.out; omega, num_eq (by have := HK.out; omega), ?_, Lib.hid (HS5.out.but H6.out.2.1 (fun k hk => (hlo k hk).1)), Below.trans XS5.out (H6.out.2.1.below hbs.out (fun k hk hh => by have := (hlo k hh).1; omega))⟩
        rw [show l.length - (gk - 1) = k + 1 from by have := HK.out; omega, HNX2.out]
        have h6 := H6.out.1
        rw [by_append, ← List.length_append] at h6
        exact Lib.hid h6
theorem rBytes24_any (A : Option Addr) (c : Nat) (l : List Int) (w : World) (hs : Sl w 1 A l.length c (iv .u64 l)) (hw : ∀ x ∈ l, Word x) : Calls Try.prog 25 #[.slice A l.length c] w (ByErr (crB l) (chkR l) w) := by
  by_cases hc : chkR l = 0
  · exact rBytes24_ok A c l _ w hs hw rfl hc
  · exact rBytes24_chk A c l _ w hs hw rfl hc
end Go.Proofs.Ytlgjdeggbcgbnaa
