/- roster: a roster's bytes, on both sides. Conditions stand in each lemma. -/
import Derived.Test.YtjdpgapmdmpjjaaRos18
import Derived.Test.YtjdpgapmdmpjjaaCod
set_option linter.unusedVariables false
set_option linter.unusedSimpArgs false
namespace Go.Proofs.Ytjdpgapmdmpjjaa
open Go.RowKit Go.ChangeShapes Go.WideShapes Go.Deep Go.Joins

/-- a validator's bytes -/
def bitsV (a b : Bool) : Int := (if a = true then 1 else 0) + (if b = true then 2 else 0)
def valB (x : (Int × Int × Int × Int × Bool × Bool)) : List Nat := putL x.1.toNat ++ (putL x.2.1.toNat ++ (putL x.2.2.1.toNat ++ (putL x.2.2.2.1.toNat ++ putL (bitsV x.2.2.2.2.1 x.2.2.2.2.2).toNat)))
def rosB (l : List (Int × Int × Int × Int × Bool × Bool)) : List Nat := if (chkV l).1 = 0 then putL l.length ++ l.flatMap valB else []
theorem oneV_zero {op ms st un : Int} {at_ pr db : Bool} (h : oneV op ms st un at_ pr db = 0) : 0 ≤ op ∧ op < 64 ∧ ms ≠ 0 ∧ 1 ≤ st ∧ st ≤ 4 ∧ 0 ≤ un ∧ un ≤ 4296015872 ∧ db = false ∧ decide (st = 4) = at_ := by
  unfold oneV at h
  split at h
  · simp at h
  · split at h
    · simp at h
    · split at h
      · simp at h
      · split at h
        · simp at h
        · rename_i h1 h2 h3 h4
          refine ⟨by omega, by omega, h2, by omega, by omega, by omega, by omega, by simpa using h3, ?_⟩
          apply Classical.byContradiction
          intro hh
          exact h4 (.inl hh)
theorem val_in {l : List (Int × Int × Int × Int × Bool × Bool)} {k : Nat} {x : (Int × Int × Int × Int × Bool × Bool)} (h : (chkV l).1 = 0) (hx : l[k]? = some x) : 0 ≤ x.1 ∧ x.1 < 64 ∧ x.2.1 ≠ 0 ∧ 1 ≤ x.2.2.1 ∧ x.2.2.1 ≤ 4 ∧ 0 ≤ x.2.2.2.1 ∧ x.2.2.2.1 ≤ 4296015872 := by
  obtain ⟨_, _, h2⟩ := chkV_zero h
  have hk := (List.getElem?_eq_some_iff.1 hx).1
  have h3 := h2 k hk
  unfold badV at h3
  rw [hx] at h3
  obtain ⟨a, b, c, d, e, f, g, _⟩ := oneV_zero h3
  exact ⟨a, b, c, d, e, f, g⟩
theorem valB_len {x : (Int × Int × Int × Int × Bool × Bool)} (h1 : x.1 < 18446744073709551616) (h2 : x.2.1 < 18446744073709551616) (h3 : x.2.2.1 < 18446744073709551616) (h4 : x.2.2.2.1 < 18446744073709551616) : (valB x).length ≤ 50 := by
  have a := putL_ten (N := x.1.toNat) (by omega)
  have b := putL_ten (N := x.2.1.toNat) (by omega)
  have c := putL_ten (N := x.2.2.1.toNat) (by omega)
  have d := putL_ten (N := x.2.2.2.1.toNat) (by omega)
  have e := putL_ten (N := (bitsV x.2.2.2.2.1 x.2.2.2.2.2).toNat) (by unfold bitsV; split <;> split <;> omega)
  unfold valB
  simp only [List.length_append]
  omega
theorem flatB_len {l : List (Int × Int × Int × Int × Bool × Bool)} (h : ∀ x ∈ l, (valB x).length ≤ 50) : (l.flatMap valB).length ≤ 50 * l.length := by
  induction l with
  | nil => simp
  | cons x l ih =>
    have h1 := h x (List.mem_cons_self ..)
    have h2 := ih (fun y hy => h y (List.mem_cons_of_mem _ hy))
    rw [List.flatMap_cons, List.length_append, List.length_cons]
    omega
theorem val_fit {l : List (Int × Int × Int × Int × Bool × Bool)} (h : (chkV l).1 = 0) (hm : ∀ x ∈ l, Fits .u64 x.2.1) (k : Nat) : (putL l.length ++ (l.take k).flatMap valB).length ≤ 1610 := by
  obtain ⟨_, h32, _⟩ := chkV_zero h
  have h1 : ∀ x ∈ l, (valB x).length ≤ 50 := by
    intro x hx
    obtain ⟨j, hj⟩ := List.getElem?_of_mem hx
    have := val_in h hj
    have := (hm x hx).u64
    exact valB_len (by omega) (by omega) (by omega) (by omega)
  have h2 := flatB_len (l := l.take k) (fun x hx => h1 x (List.mem_of_mem_take hx))
  have h3 : (l.take k).length ≤ 32 := by rw [List.length_take]; omega
  have h4 := putL_ten (N := l.length) (by omega)
  rw [List.length_append]
  omega
theorem rosBit_any (b : Bool) (n p : Int) (w : World) (hp : p = if b = true then n else 0) : Calls Try.prog 121 #[.bool b, .int .i64 n] w fun r w' => r = .returned (.int .i64 p) ∧ Ext w w' := by
  subst hp
  cases b
  · go_enter Try.func121, Try.ntmps121
    go_wp2
    go_ret
    exact ⟨rfl, Ext.refl _⟩
  · go_enter Try.func121, Try.ntmps121
    go_wp2
    go_ret
    exact ⟨rfl, Ext.refl _⟩
theorem rBit16_any (b : Bool) (n p : Int) (w : World) (hp : p = if b = true then n else 0) : Calls Try.prog 125 #[.bool b, .int .i64 n] w fun r w' => r = .returned (.int .i64 p) ∧ Ext w w' := by
  subst hp
  cases b
  · go_enter Try.func125, Try.ntmps125
    go_wp2
    go_ret
    exact ⟨rfl, Ext.refl _⟩
  · go_enter Try.func125, Try.ntmps125
    go_wp2
    go_ret
    exact ⟨rfl, Ext.refl _⟩
set_option maxRecDepth 100000 in
set_option maxHeartbeats 2000000 in
theorem rosBytes_chk (A : Option Addr) (c : Nat) (l : List (Int × Int × Int × Int × Bool × Bool)) (f1 f2 : Int) (w : World) (hs : Sl w 6 A l.length c (l.flatMap valC)) (hw : ∀ x ∈ l, (Lit.int .i64 x.1).wf = true) (hm : ∀ x ∈ l, Fits .u64 x.2.1) (hf : (f1, f2) = chkV l) (hc : f1 ≠ 0) :
    Calls Try.prog 74 #[.slice A l.length c] w (ByErr (rosB l) f1 w) := by
  have s1 := hs.small
  have e7 : (f1 != 0) = true := by simpa using hc
  have hB : rosB l = [] := by unfold rosB; rw [← hf]; exact if_neg hc
  rw [hB]
  have HS := Lib.hid hs.low
  have Hf := Lib.hid hf
  have HM := Lib.hid hm
  have HW := Lib.hid hw
  clear hs hf hm hw
  go_enter Try.func74, Try.ntmps74
  go_wp2_with fail
  (with_reducible refine (rosCheck_ev A l.length c l f1 f2 _ (HS.out.ext (by repeat (first | with_reducible exact Ext.refl _ | with_reducible refine Ext.drew ?_ | with_reducible refine Ext.drewN ?_ _ | with_reducible refine Ext.alloc ?_ _ | with_reducible refine Ext.setCell ?_ (by first | omega | (simp; done) | (simp; omega)) _))).sl HW.out Hf.out).mono ?_)
  rintro e w1 ⟨rfl, hx1⟩
  have z1 := hx1.size
  try simp at z1
  replace HS := Lib.hid (HS.out.ext (Ext.trans (by repeat (first | with_reducible exact Ext.refl _ | with_reducible refine Ext.drew ?_ | with_reducible refine Ext.drewN ?_ _ | with_reducible refine Ext.alloc ?_ _ | with_reducible refine Ext.setCell ?_ (by first | omega | (simp; done) | (simp; omega)) _)) hx1))
  have X1 : Hid (Ext w w1) := Lib.hid (Ext.trans (by repeat (first | with_reducible exact Ext.refl w | with_reducible refine Ext.drew ?_ | with_reducible refine Ext.drewN ?_ _ | with_reducible refine Ext.alloc ?_ _ | with_reducible refine Ext.setCell ?_ (by first | omega | (simp; done) | (simp; omega)) _)) hx1)
  clear hx1 z1
  go_wp2_with fail
  refine bodyPost_ret (v := .tuple #[.slice none 0 0, .int .i64 f1]) (by simp [results, Try.results74, go_sem, World.cell?_alloc_past]; try rfl) rfl ⟨_, rfl, World.ownsRow_nil _ _ _ _, ?_⟩
  exact (by repeat (first | with_reducible exact X1.out | with_reducible refine Ext.drew ?_ | with_reducible refine Ext.drewN ?_ _ | with_reducible refine Ext.alloc ?_ _ | with_reducible refine Ext.setCell ?_ (by first | omega | (simp; done) | (simp; omega)) _))
set_option maxRecDepth 100000 in
set_option maxHeartbeats 2000000 in
theorem rosBytes_ok (A : Option Addr) (c : Nat) (l : List (Int × Int × Int × Int × Bool × Bool)) (f1 f2 : Int) (w : World) (hs : Sl w 6 A l.length c (l.flatMap valC)) (hw : ∀ x ∈ l, (Lit.int .i64 x.1).wf = true) (hm : ∀ x ∈ l, Fits .u64 x.2.1) (hf : (f1, f2) = chkV l) (hc : f1 = 0) :
    Calls Try.prog 74 #[.slice A l.length c] w (ByErr (rosB l) f1 w) := by
  have s1 := hs.small
  subst hc
  have hch : (chkV l).1 = 0 := by rw [← hf]
  have hB : rosB l = putL l.length ++ l.flatMap valB := by unfold rosB; exact if_pos hch
  rw [hB]
  have h32 := (chkV_zero hch).2.1
  have HC := Lib.hid hch
  clear hB hch
  have HS := Lib.hid hs.low
  have Hf := Lib.hid hf
  have HM := Lib.hid hm
  have HW := Lib.hid hw
  clear hs hf hm hw
  go_enter Try.func74, Try.ntmps74
  go_wp2_with fail
  (with_reducible refine (rosCheck_ev A l.length c l 0 f2 _ (HS.out.ext (by repeat (first | with_reducible exact Ext.refl _ | with_reducible refine Ext.drew ?_ | with_reducible refine Ext.drewN ?_ _ | with_reducible refine Ext.alloc ?_ _ | with_reducible refine Ext.setCell ?_ (by first | omega | (simp; done) | (simp; omega)) _))).sl HW.out Hf.out).mono ?_)
  rintro e w1 ⟨rfl, hx1⟩
  have z1 := hx1.size
  try simp at z1
  replace HS := Lib.hid (HS.out.ext (Ext.trans (by repeat (first | with_reducible exact Ext.refl _ | with_reducible refine Ext.drew ?_ | with_reducible refine Ext.drewN ?_ _ | with_reducible refine Ext.alloc ?_ _ | with_reducible refine Ext.setCell ?_ (by first | omega | (simp; done) | (simp; omega)) _)) hx1))
  have X1 : Hid (Ext w w1) := Lib.hid (Ext.trans (by repeat (first | with_reducible exact Ext.refl w | with_reducible refine Ext.drew ?_ | with_reducible refine Ext.drewN ?_ _ | with_reducible refine Ext.alloc ?_ _ | with_reducible refine Ext.setCell ?_ (by first | omega | (simp; done) | (simp; omega)) _)) hx1)
  clear hx1 z1
  go_wp2_with fail
  have hx0 := Ext.size X1.out
  (with_reducible refine (cNewWriter_ex 4096 (by decide) (by decide) _).mono ?_)
  rintro e w2 ⟨g, rfl, hg, hW, hx2⟩
  have z2 := hx2.size
  try simp at z2
  replace HS := Lib.hid (HS.out.ext (Ext.trans (by repeat (first | with_reducible exact Ext.refl _ | with_reducible refine Ext.drew ?_ | with_reducible refine Ext.drewN ?_ _ | with_reducible refine Ext.alloc ?_ _ | with_reducible refine Ext.setCell ?_ (by first | omega | (simp; done) | (simp; omega)) _)) hx2))
  have X2 : Hid (Ext w w2) := Lib.hid (Ext.trans (by repeat (first | with_reducible exact X1.out | with_reducible refine Ext.drew ?_ | with_reducible refine Ext.drewN ?_ _ | with_reducible refine Ext.alloc ?_ _ | with_reducible refine Ext.setCell ?_ (by first | omega | (simp; done) | (simp; omega)) _)) hx2)
  have HWr := Lib.hid hW
  clear X1 hx2 z2 hW
  have hgw : w.heap.size ≤ g := by have := Ext.size X2.out; (try simp at hg); have := hx0; omega
  clear hg
  go_wp2_with fail
  (with_reducible refine (cWN_fit g 4096 [] (l.length : Int) (by omega) (by omega) (by simp) _ (HWr.out.ext (by repeat (first | with_reducible exact Ext.refl _ | with_reducible refine Ext.drew ?_ | with_reducible refine Ext.drewN ?_ _ | with_reducible refine Ext.alloc ?_ _ | with_reducible refine Ext.setCell ?_ (by first | omega | (simp; done) | (simp; omega)) _)))).mono ?_)
  rintro e w3 ⟨rfl, hW, hx3⟩
  have hsz3 := hx3.size
  try simp at hsz3
  have z3 := hx3.size
  try simp at z3
  have X3 : Hid (Ext w w3) := Lib.hid (have hX := (show Ext w _ from (by repeat (first | with_reducible exact X2.out | with_reducible refine Ext.drew ?_ | with_reducible refine Ext.drewN ?_ _ | with_reducible refine Ext.alloc ?_ _ | with_reducible refine Ext.setCell ?_ (by first | omega | (simp; done) | (simp; omega)) _))); Below.trans hX (hx3.below (Ext.size hX) (fun k hk hh => by have h2 : g ≤ k := hh; omega)))
  replace HS := Lib.hid ((HS.out.ext (by repeat (first | with_reducible exact Ext.refl _ | with_reducible refine Ext.drew ?_ | with_reducible refine Ext.drewN ?_ _ | with_reducible refine Ext.alloc ?_ _ | with_reducible refine Ext.setCell ?_ (by first | omega | (simp; done) | (simp; omega)) _))).but hx3 (fun k hk => by have h2 : g ≤ k := hk; omega))
  clear HWr
  have HWr := Lib.hid (show Wr _ g 4096 0 (putL l.length) from by simpa using hW)
  clear hsz3 X2 hx3 z3
  have HW0 : Hid (Wr _ g 4096 0 (putL l.length ++ (l.take 0).flatMap valB)) := Lib.hid (by simpa using HWr.out)
  go_wp2_with fail
  go_loopg [28] l.length (fun gh i wx => gh ≤ l.length ∧ i = .int .i64 ((l.length - gh : Nat) : Int) ∧ Hid (Wr wx g 4096 0 (putL l.length ++ (l.take (l.length - gh)).flatMap valB)) ∧ Hid (SlB w.heap.size wx 6 A l.length c (l.flatMap valC)) ∧ Ext w wx)
  case atStart => exact ⟨Nat.le_refl _, by simp, by rw [Nat.sub_self]; exact HW0, HS, X3.out⟩
  case round =>
    obtain ⟨hg, hi, hw, hs, hx⟩ := hrel
    obtain ⟨k, hk⟩ : ∃ k, k = l.length - gk := ⟨_, rfl⟩
    rw [← hk] at hi hw
    subst hi
    have XR := Lib.hid hx
    have HWk := hw
    have HSk := hs
    by_cases hz : gk = 0
    · have hkn : ¬ (k : Int) < l.length := by omega
      have hkl : k = l.length := by omega
      have HWE : Hid (Wr wr g 4096 0 (putL l.length ++ l.flatMap valB)) := Lib.hid (by have h := hw.out; rw [hkl, List.take_length] at h; exact h)
      clear hx hk hg hz hw hs hkl HWk HSk
      go_wp2_with fail
      have hrm := Ext.size XR.out
      (with_reducible refine ((show _ from cDone_ok g 4096 _ _ (HWE.out.ext (by repeat (first | with_reducible exact Ext.refl _ | with_reducible refine Ext.drew ?_ | with_reducible refine Ext.drewN ?_ _ | with_reducible refine Ext.alloc ?_ _ | with_reducible refine Ext.setCell ?_ (by first | omega | (simp; done) | (simp; omega)) _))))).mono ?_)
      rintro e w41 ⟨v, rfl, hV, hx41⟩
      have z41 := hx41.size
      try simp at z41
      replace HWE := Lib.hid (HWE.out.ext (Ext.trans (by repeat (first | with_reducible exact Ext.refl _ | with_reducible refine Ext.drew ?_ | with_reducible refine Ext.drewN ?_ _ | with_reducible refine Ext.alloc ?_ _ | with_reducible refine Ext.setCell ?_ (by first | omega | (simp; done) | (simp; omega)) _)) hx41))
      have X41 : Hid (Ext w w41) := Lib.hid (Ext.trans (by repeat (first | with_reducible exact XR.out | with_reducible refine Ext.drew ?_ | with_reducible refine Ext.drewN ?_ _ | with_reducible refine Ext.alloc ?_ _ | with_reducible refine Ext.setCell ?_ (by first | omega | (simp; done) | (simp; omega)) _)) hx41)
      have HV := Lib.hid hV
      clear XR hx41 z41 hV
      go_wp2_with fail
      refine bodyPost_ret (v := .tuple #[v, .int .i64 0]) (by simp [results, Try.results74]; try rfl) rfl ⟨v, rfl, own_lower HV.out ?_, (by repeat (first | with_reducible exact X41.out | with_reducible refine Ext.drew ?_ | with_reducible refine Ext.drewN ?_ _ | with_reducible refine Ext.alloc ?_ _ | with_reducible refine Ext.setCell ?_ (by first | omega | (simp; done) | (simp; omega)) _))⟩
      have h := hrm
      (try simp at h)
      omega
    · have hkn : (k : Int) < l.length := by omega
      have hk1 : k < l.length := by omega
      obtain ⟨b1, o1, rfl, hb1, hc1⟩ := hs.out.sl.rec_ valC_len (show 0 < l.length from by omega)
      have hb1w := hs.out.2 (by omega) b1 o1 none rfl
      have x_0 := hc1 k _ (List.getElem?_eq_getElem hk1) 0 _ rfl
      have x_1 := hc1 k _ (List.getElem?_eq_getElem hk1) 1 _ rfl
      have x_2 := hc1 k _ (List.getElem?_eq_getElem hk1) 2 _ rfl
      have x_3 := hc1 k _ (List.getElem?_eq_getElem hk1) 3 _ rfl
      have x_4 := hc1 k _ (List.getElem?_eq_getElem hk1) 4 _ rfl
      have x_5 := hc1 k _ (List.getElem?_eq_getElem hk1) 5 _ rfl
      obtain ⟨x, hxx⟩ : ∃ x, x = l[k] := ⟨_, rfl⟩
      have hlk : l[k]? = some x := by rw [hxx]; exact List.getElem?_eq_getElem hk1
      rw [← hxx] at x_0 x_1 x_2 x_3 x_4 x_5
      have hr := val_in HC.out hlk
      have hu := (HM.out x (List.mem_of_getElem? hlk)).u64
      have hM := val_fit HC.out HM.out k
      have ht := valC_take hlk
      obtain ⟨M0, hM0⟩ : ∃ M0, M0 = putL l.length ++ (l.take k).flatMap valB := ⟨_, rfl⟩
      rw [← hM0] at hM HWk
      have hnext : putL l.length ++ (l.take (k + 1)).flatMap valB = M0 ++ valB x := by rw [ht, List.flatMap_append, ← List.append_assoc, ← hM0]; simp
      obtain ⟨x0, x1, x2, x3, x4, x5⟩ := x
      simp only at x_0 x_1 x_2 x_3 x_4 x_5 hr hu
      rw [Nat.add_zero] at x_0
      rw [← Nat.add_assoc] at x_1 x_2 x_3 x_4 x_5
      obtain ⟨p1, hp1⟩ : ∃ p : Int, p = if x4 = true then 1 else 0 := ⟨_, rfl⟩
      obtain ⟨p2, hp2⟩ : ∃ p : Int, p = if x5 = true then 2 else 0 := ⟨_, rfl⟩
      have hbits : bitsV x4 x5 = p1 + p2 := by unfold bitsV; rw [hp1, hp2]
      have b1a : 0 ≤ p1 ∧ p1 ≤ 1 := by rw [hp1]; split <;> omega
      have b2a : 0 ≤ p2 ∧ p2 ≤ 2 := by rw [hp2]; split <;> omega
      have c0 := putL_ten (N := x0.toNat) (by omega)
      have c1' := putL_ten (N := x1.toNat) (by omega)
      have c2' := putL_ten (N := x2.toNat) (by omega)
      have c3' := putL_ten (N := x3.toNat) (by omega)
      have HQ0 := Lib.hid (And.intro hr (And.intro hu (And.intro hM (And.intro c0 (And.intro c1' (And.intro c2' c3'))))))
      have HP1 := Lib.hid hp1
      have HP2 := Lib.hid hp2
      have HNX := Lib.hid hnext
      have HBI := Lib.hid hbits
      have HK := Lib.hid (And.intro hk (And.intro hg hz))
      obtain ⟨p10, p11⟩ := b1a
      obtain ⟨p20, p21⟩ := b2a
      have hwrap : IntKind.i64.wrap (p1 + p2) = p1 + p2 := IntWalk.i64_in _ (by omega)
      clear hx hk hg hz hc1 hxx hlk hr hu hM ht hnext hp1 hp2 hbits c0 c1' c2' c3' hw hs hM0
      go_wp2_with fail
      (with_reducible refine (cWN_box g wr.heap.size 4096 M0 x0 (by have := HQ0.out; omega) (by have := HQ0.out; omega) (by have := HQ0.out; (try simp only [List.length_append]); omega) _ (HWk.out.ext (by repeat (first | with_reducible exact Ext.refl _ | with_reducible refine Ext.drew ?_ | with_reducible refine Ext.drewN ?_ _ | with_reducible refine Ext.alloc ?_ _ | with_reducible refine Ext.setCell ?_ (by first | omega | (simp; done) | (simp; omega)) _))) (Off.new HWk.out (Nat.le_refl _) (by repeat (first | with_reducible exact Ext.refl _ | with_reducible refine Ext.drew ?_ | with_reducible refine Ext.drewN ?_ _ | with_reducible refine Ext.alloc ?_ _ | with_reducible refine Ext.setCell ?_ (by first | omega | (simp; done) | (simp; omega)) _)) (by simp))).mono ?_)
      rintro e w51 ⟨rfl, hW, hQ, hx51⟩
      have hsz51 := hx51.size
      try simp at hsz51
      have c0_1 : w51.cell? ⟨wr.heap.size, 1, none⟩ = some (.int .u64 x1) := hx51.has (fun hh => hh.1 rfl) (by first | fail | (simp [go_sem, World.cell?_alloc_past, x_0, x_1, x_2, x_3, x_4, x_5]; done))
      have c0_2 : w51.cell? ⟨wr.heap.size, 2, none⟩ = some (.int .i64 x2) := hx51.has (fun hh => hh.1 rfl) (by first | fail | (simp [go_sem, World.cell?_alloc_past, x_0, x_1, x_2, x_3, x_4, x_5]; done))
      have c0_3 : w51.cell? ⟨wr.heap.size, 3, none⟩ = some (.int .i64 x3) := hx51.has (fun hh => hh.1 rfl) (by first | fail | (simp [go_sem, World.cell?_alloc_past, x_0, x_1, x_2, x_3, x_4, x_5]; done))
      have c0_4 : w51.cell? ⟨wr.heap.size, 4, none⟩ = some (.bool x4) := hx51.has (fun hh => hh.1 rfl) (by first | fail | (simp [go_sem, World.cell?_alloc_past, x_0, x_1, x_2, x_3, x_4, x_5]; done))
      have c0_5 : w51.cell? ⟨wr.heap.size, 5, none⟩ = some (.bool x5) := hx51.has (fun hh => hh.1 rfl) (by first | fail | (simp [go_sem, World.cell?_alloc_past, x_0, x_1, x_2, x_3, x_4, x_5]; done))
      have z51 := hx51.size
      try simp at z51
      have rc0 : wr.heap.size < w51.heap.size := by omega
      have rc0a : wr.heap.size < w51.heap.size + 1 := by omega
      have rc0b : wr.heap.size < w51.heap.size + 1 + 1 := by omega
      have rc0c : wr.heap.size < w51.heap.size + 1 + 1 + 1 := by omega
      have rc0n : ¬ wr.heap.size = w51.heap.size := by omega
      have X51 : Hid (Ext w w51) := Lib.hid (have hX := (show Ext w _ from (by repeat (first | with_reducible exact XR.out | with_reducible refine Ext.drew ?_ | with_reducible refine Ext.drewN ?_ _ | with_reducible refine Ext.alloc ?_ _ | with_reducible refine Ext.setCell ?_ (by first | omega | (simp; done) | (simp; omega)) _))); Below.trans hX (hx51.below (Ext.size hX) (fun k hk hh => by have h2 : g ≤ k := hh.2; omega)))
      replace HSk := Lib.hid ((HSk.out.ext (by repeat (first | with_reducible exact Ext.refl _ | with_reducible refine Ext.drew ?_ | with_reducible refine Ext.drewN ?_ _ | with_reducible refine Ext.alloc ?_ _ | with_reducible refine Ext.setCell ?_ (by first | omega | (simp; done) | (simp; omega)) _))).but hx51 (fun k hk => by have h2 : g ≤ k := hk.2; omega))
      clear HWk
      have HWk := Lib.hid hW
      have HQ := Lib.hid hQ
      clear x_0 x_5 x_3 x_1 x_2 x_4 hsz51 XR hx51 z51 hW hQ
      go_wp2_with fail
      (with_reducible refine (cWU_box g wr.heap.size 4096 (M0 ++ putL x0.toNat) x1 (by have := HQ0.out; omega) (by have := HQ0.out; omega) (by have := HQ0.out; (try simp only [List.length_append]); omega) _ (HWk.out.ext (by repeat (first | with_reducible exact Ext.refl _ | with_reducible refine Ext.drew ?_ | with_reducible refine Ext.drewN ?_ _ | with_reducible refine Ext.alloc ?_ _ | with_reducible refine Ext.setCell ?_ (by first | omega | (simp; done) | (simp; omega)) _))) (HQ.out.ext (by repeat (first | with_reducible exact Ext.refl _ | with_reducible refine Ext.drew ?_ | with_reducible refine Ext.drewN ?_ _ | with_reducible refine Ext.alloc ?_ _ | with_reducible refine Ext.setCell ?_ (by first | omega | (simp; done) | (simp; omega)) _)))).mono ?_)
      rintro e w52 ⟨rfl, hW, hQ, hx52⟩
      have hsz52 := hx52.size
      try simp at hsz52
      replace c0_2 : w52.cell? ⟨wr.heap.size, 2, none⟩ = some (.int .i64 x2) := hx52.has (fun hh => hh.1 rfl) (by first | exact c0_2 | (simp [go_sem, World.cell?_alloc_past, c0_1, c0_2, c0_3, c0_4, c0_5, rc0, rc0a, rc0b, rc0c, rc0n]; done))
      replace c0_3 : w52.cell? ⟨wr.heap.size, 3, none⟩ = some (.int .i64 x3) := hx52.has (fun hh => hh.1 rfl) (by first | exact c0_3 | (simp [go_sem, World.cell?_alloc_past, c0_1, c0_2, c0_3, c0_4, c0_5, rc0, rc0a, rc0b, rc0c, rc0n]; done))
      replace c0_4 : w52.cell? ⟨wr.heap.size, 4, none⟩ = some (.bool x4) := hx52.has (fun hh => hh.1 rfl) (by first | exact c0_4 | (simp [go_sem, World.cell?_alloc_past, c0_1, c0_2, c0_3, c0_4, c0_5, rc0, rc0a, rc0b, rc0c, rc0n]; done))
      replace c0_5 : w52.cell? ⟨wr.heap.size, 5, none⟩ = some (.bool x5) := hx52.has (fun hh => hh.1 rfl) (by first | exact c0_5 | (simp [go_sem, World.cell?_alloc_past, c0_1, c0_2, c0_3, c0_4, c0_5, rc0, rc0a, rc0b, rc0c, rc0n]; done))
      have z52 := hx52.size
      try simp at z52
      replace rc0 : wr.heap.size < w52.heap.size := by omega
      replace rc0a : wr.heap.size < w52.heap.size + 1 := by omega
      replace rc0b : wr.heap.size < w52.heap.size + 1 + 1 := by omega
      replace rc0c : wr.heap.size < w52.heap.size + 1 + 1 + 1 := by omega
      replace rc0n : ¬ wr.heap.size = w52.heap.size := by omega
      have X52 : Hid (Ext w w52) := Lib.hid (have hX := (show Ext w _ from (by repeat (first | with_reducible exact X51.out | with_reducible refine Ext.drew ?_ | with_reducible refine Ext.drewN ?_ _ | with_reducible refine Ext.alloc ?_ _ | with_reducible refine Ext.setCell ?_ (by first | omega | (simp; done) | (simp; omega)) _))); Below.trans hX (hx52.below (Ext.size hX) (fun k hk hh => by have h2 : g ≤ k := hh.2; omega)))
      replace HSk := Lib.hid ((HSk.out.ext (by repeat (first | with_reducible exact Ext.refl _ | with_reducible refine Ext.drew ?_ | with_reducible refine Ext.drewN ?_ _ | with_reducible refine Ext.alloc ?_ _ | with_reducible refine Ext.setCell ?_ (by first | omega | (simp; done) | (simp; omega)) _))).but hx52 (fun k hk => by have h2 : g ≤ k := hk.2; omega))
      clear HWk HQ
      have HWk := Lib.hid hW
      have HQ := Lib.hid hQ
      clear c0_1 hsz52 X51 hx52 z52 hW hQ
      go_wp2_with fail
      (with_reducible refine (cWN_box g wr.heap.size 4096 ((M0 ++ putL x0.toNat) ++ putL x1.toNat) x2 (by have := HQ0.out; omega) (by have := HQ0.out; omega) (by have := HQ0.out; (try simp only [List.length_append]); omega) _ (HWk.out.ext (by repeat (first | with_reducible exact Ext.refl _ | with_reducible refine Ext.drew ?_ | with_reducible refine Ext.drewN ?_ _ | with_reducible refine Ext.alloc ?_ _ | with_reducible refine Ext.setCell ?_ (by first | omega | (simp; done) | (simp; omega)) _))) (HQ.out.ext (by repeat (first | with_reducible exact Ext.refl _ | with_reducible refine Ext.drew ?_ | with_reducible refine Ext.drewN ?_ _ | with_reducible refine Ext.alloc ?_ _ | with_reducible refine Ext.setCell ?_ (by first | omega | (simp; done) | (simp; omega)) _)))).mono ?_)
      rintro e w53 ⟨rfl, hW, hQ, hx53⟩
      have hsz53 := hx53.size
      try simp at hsz53
      replace c0_3 : w53.cell? ⟨wr.heap.size, 3, none⟩ = some (.int .i64 x3) := hx53.has (fun hh => hh.1 rfl) (by first | exact c0_3 | (simp [go_sem, World.cell?_alloc_past, c0_2, c0_3, c0_4, c0_5, rc0, rc0a, rc0b, rc0c, rc0n]; done))
      replace c0_4 : w53.cell? ⟨wr.heap.size, 4, none⟩ = some (.bool x4) := hx53.has (fun hh => hh.1 rfl) (by first | exact c0_4 | (simp [go_sem, World.cell?_alloc_past, c0_2, c0_3, c0_4, c0_5, rc0, rc0a, rc0b, rc0c, rc0n]; done))
      replace c0_5 : w53.cell? ⟨wr.heap.size, 5, none⟩ = some (.bool x5) := hx53.has (fun hh => hh.1 rfl) (by first | exact c0_5 | (simp [go_sem, World.cell?_alloc_past, c0_2, c0_3, c0_4, c0_5, rc0, rc0a, rc0b, rc0c, rc0n]; done))
      have z53 := hx53.size
      try simp at z53
      replace rc0 : wr.heap.size < w53.heap.size := by omega
      replace rc0a : wr.heap.size < w53.heap.size + 1 := by omega
      replace rc0b : wr.heap.size < w53.heap.size + 1 + 1 := by omega
      replace rc0c : wr.heap.size < w53.heap.size + 1 + 1 + 1 := by omega
      replace rc0n : ¬ wr.heap.size = w53.heap.size := by omega
      have X53 : Hid (Ext w w53) := Lib.hid (have hX := (show Ext w _ from (by repeat (first | with_reducible exact X52.out | with_reducible refine Ext.drew ?_ | with_reducible refine Ext.drewN ?_ _ | with_reducible refine Ext.alloc ?_ _ | with_reducible refine Ext.setCell ?_ (by first | omega | (simp; done) | (simp; omega)) _))); Below.trans hX (hx53.below (Ext.size hX) (fun k hk hh => by have h2 : g ≤ k := hh.2; omega)))
      replace HSk := Lib.hid ((HSk.out.ext (by repeat (first | with_reducible exact Ext.refl _ | with_reducible refine Ext.drew ?_ | with_reducible refine Ext.drewN ?_ _ | with_reducible refine Ext.alloc ?_ _ | with_reducible refine Ext.setCell ?_ (by first | omega | (simp; done) | (simp; omega)) _))).but hx53 (fun k hk => by have h2 : g ≤ k := hk.2; omega))
      clear HWk HQ
      have HWk := Lib.hid hW
      have HQ := Lib.hid hQ
      clear c0_2 hsz53 X52 hx53 z53 hW hQ
      go_wp2_with fail
      (with_reducible refine (cWN_box g wr.heap.size 4096 (((M0 ++ putL x0.toNat) ++ putL x1.toNat) ++ putL x2.toNat) x3 (by have := HQ0.out; omega) (by have := HQ0.out; omega) (by have := HQ0.out; (try simp only [List.length_append]); omega) _ (HWk.out.ext (by repeat (first | with_reducible exact Ext.refl _ | with_reducible refine Ext.drew ?_ | with_reducible refine Ext.drewN ?_ _ | with_reducible refine Ext.alloc ?_ _ | with_reducible refine Ext.setCell ?_ (by first | omega | (simp; done) | (simp; omega)) _))) (HQ.out.ext (by repeat (first | with_reducible exact Ext.refl _ | with_reducible refine Ext.drew ?_ | with_reducible refine Ext.drewN ?_ _ | with_reducible refine Ext.alloc ?_ _ | with_reducible refine Ext.setCell ?_ (by first | omega | (simp; done) | (simp; omega)) _)))).mono ?_)
      rintro e w54 ⟨rfl, hW, hQ, hx54⟩
      have hsz54 := hx54.size
      try simp at hsz54
      replace c0_4 : w54.cell? ⟨wr.heap.size, 4, none⟩ = some (.bool x4) := hx54.has (fun hh => hh.1 rfl) (by first | exact c0_4 | (simp [go_sem, World.cell?_alloc_past, c0_3, c0_4, c0_5, rc0, rc0a, rc0b, rc0c, rc0n]; done))
      replace c0_5 : w54.cell? ⟨wr.heap.size, 5, none⟩ = some (.bool x5) := hx54.has (fun hh => hh.1 rfl) (by first | exact c0_5 | (simp [go_sem, World.cell?_alloc_past, c0_3, c0_4, c0_5, rc0, rc0a, rc0b, rc0c, rc0n]; done))
      have z54 := hx54.size
      try simp at z54
      replace rc0 : wr.heap.size < w54.heap.size := by omega
      replace rc0a : wr.heap.size < w54.heap.size + 1 := by omega
      replace rc0b : wr.heap.size < w54.heap.size + 1 + 1 := by omega
      replace rc0c : wr.heap.size < w54.heap.size + 1 + 1 + 1 := by omega
      replace rc0n : ¬ wr.heap.size = w54.heap.size := by omega
      have X54 : Hid (Ext w w54) := Lib.hid (have hX := (show Ext w _ from (by repeat (first | with_reducible exact X53.out | with_reducible refine Ext.drew ?_ | with_reducible refine Ext.drewN ?_ _ | with_reducible refine Ext.alloc ?_ _ | with_reducible refine Ext.setCell ?_ (by first | omega | (simp; done) | (simp; omega)) _))); Below.trans hX (hx54.below (Ext.size hX) (fun k hk hh => by have h2 : g ≤ k := hh.2; omega)))
      replace HSk := Lib.hid ((HSk.out.ext (by repeat (first | with_reducible exact Ext.refl _ | with_reducible refine Ext.drew ?_ | with_reducible refine Ext.drewN ?_ _ | with_reducible refine Ext.alloc ?_ _ | with_reducible refine Ext.setCell ?_ (by first | omega | (simp; done) | (simp; omega)) _))).but hx54 (fun k hk => by have h2 : g ≤ k := hk.2; omega))
      clear HWk HQ
      have HWk := Lib.hid hW
      have HQ := Lib.hid hQ
      clear c0_3 hsz54 X53 hx54 z54 hW hQ
      go_wp2_with fail
      refine wp_region_held_drew (S := fun w' => w'.cell? ⟨wr.heap.size, 4, none⟩ = some (.bool x4) ∧ w'.cell? ⟨wr.heap.size, 5, none⟩ = some (.bool x5)) (by kernel_rfl) (by first | exact ⟨c0_4, c0_5⟩ | (simp [go_sem, World.cell?_alloc_past, c0_4, c0_5, rc0, rc0a, rc0b, rc0c, rc0n]; done)) (fun hHeld => ?_)
      (refine' take_in 0 rfl (by kernel_rfl) (by kernel_rfl) (by kernel_rfl) (fun _ _ _ h => h) (by rfl) (by assumption) ?_ ?_; rotate_left; focus (intro w hSw; (try dsimp only at hSw); go_simp; try with_reducible rfl)); try simp only [Act.put, List.setIfInBounds_toArray, List.set_cons_zero, List.set_cons_succ]
      (refine' take_in 1 rfl (by kernel_rfl) (by kernel_rfl) (by kernel_rfl) (fun _ _ _ h => h) (by rfl) (by assumption) ?_ ?_; rotate_left; focus (intro w hSw; (try dsimp only at hSw); go_simp; try with_reducible rfl)); try simp only [Act.put, List.setIfInBounds_toArray, List.set_cons_zero, List.set_cons_succ]
      (refine' take_in 2 rfl (by kernel_rfl) (by kernel_rfl) (by kernel_rfl) (fun _ _ _ h => h) (by rfl) (by assumption) ?_ ?_; rotate_left; focus (intro w hSw; (try dsimp only at hSw); go_simp; try with_reducible rfl)); try simp only [Act.put, List.setIfInBounds_toArray, List.set_cons_zero, List.set_cons_succ]
      (refine' take_in 4 rfl (by kernel_rfl) (by kernel_rfl) (by kernel_rfl) (fun _ _ _ h => h) (by rfl) (by assumption) ?_ ?_; rotate_left; focus (intro w hSw; (try dsimp only at hSw); go_simp; try with_reducible rfl)); try simp only [Act.put, List.setIfInBounds_toArray, List.set_cons_zero, List.set_cons_succ]
      (refine' take_in 5 rfl (by kernel_rfl) (by kernel_rfl) (by kernel_rfl) (fun _ _ _ h => h) (by rfl) (by assumption) ?_ ?_; rotate_left; focus (intro w hSw; (try dsimp only at hSw); go_simp; try with_reducible rfl)); try simp only [Act.put, List.setIfInBounds_toArray, List.set_cons_zero, List.set_cons_succ]
      refine' next_in 3 rfl (by kernel_rfl) (by rfl) (fun K hK => ?_)
      go_simp
      (with_reducible refine (rosBit_any x4 1 p1 _ HP1.out).mono ?_)
      rintro e w55 ⟨rfl, hx55⟩
      replace c0_4 : w55.cell? ⟨wr.heap.size, 4, none⟩ = some (.bool x4) := hx55.has (by first | exact c0_4 | (simp [go_sem, World.cell?_alloc_past, c0_4, c0_5, rc0, rc0a, rc0b, rc0c, rc0n]; done))
      replace c0_5 : w55.cell? ⟨wr.heap.size, 5, none⟩ = some (.bool x5) := hx55.has (by first | exact c0_5 | (simp [go_sem, World.cell?_alloc_past, c0_4, c0_5, rc0, rc0a, rc0b, rc0c, rc0n]; done))
      have z55 := hx55.size
      try simp at z55
      replace rc0 : wr.heap.size < w55.heap.size := by omega
      replace rc0a : wr.heap.size < w55.heap.size + 1 := by omega
      replace rc0b : wr.heap.size < w55.heap.size + 1 + 1 := by omega
      replace rc0c : wr.heap.size < w55.heap.size + 1 + 1 + 1 := by omega
      replace rc0n : ¬ wr.heap.size = w55.heap.size := by omega
      replace HSk := Lib.hid (HSk.out.ext (Ext.trans (by repeat (first | with_reducible exact Ext.refl _ | with_reducible refine Ext.drew ?_ | with_reducible refine Ext.drewN ?_ _ | with_reducible refine Ext.alloc ?_ _ | with_reducible refine Ext.setCell ?_ (by first | omega | (simp; done) | (simp; omega)) _)) hx55))
      replace HWk := Lib.hid (HWk.out.ext (Ext.trans (by repeat (first | with_reducible exact Ext.refl _ | with_reducible refine Ext.drew ?_ | with_reducible refine Ext.drewN ?_ _ | with_reducible refine Ext.alloc ?_ _ | with_reducible refine Ext.setCell ?_ (by first | omega | (simp; done) | (simp; omega)) _)) hx55))
      replace HQ := Lib.hid (HQ.out.ext (Ext.trans (by repeat (first | with_reducible exact Ext.refl _ | with_reducible refine Ext.drew ?_ | with_reducible refine Ext.drewN ?_ _ | with_reducible refine Ext.alloc ?_ _ | with_reducible refine Ext.setCell ?_ (by first | omega | (simp; done) | (simp; omega)) _)) hx55))
      have X55 : Hid (Ext w w55) := Lib.hid (Ext.trans (by repeat (first | with_reducible exact X54.out | with_reducible refine Ext.drew ?_ | with_reducible refine Ext.drewN ?_ _ | with_reducible refine Ext.alloc ?_ _ | with_reducible refine Ext.setCell ?_ (by first | omega | (simp; done) | (simp; omega)) _)) hx55)
      clear X54 hx55 z55
      refine hK.out _ _ (by (first | exact ⟨c0_4, c0_5⟩ | (simp [go_sem, World.cell?_alloc_past, c0_4, c0_5, rc0, rc0a, rc0b, rc0c, rc0n]; done))) (fun hHeld => ?_); clear hK K; try simp only [Act.put, List.setIfInBounds_toArray, List.set_cons_zero, List.set_cons_succ]
      refine' next_in 6 rfl (by kernel_rfl) (by rfl) (fun K hK => ?_)
      go_simp
      (with_reducible refine (rosBit_any x5 2 p2 _ HP2.out).mono ?_)
      rintro e w56 ⟨rfl, hx56⟩
      replace c0_4 : w56.cell? ⟨wr.heap.size, 4, none⟩ = some (.bool x4) := hx56.has (by first | exact c0_4 | (simp [go_sem, World.cell?_alloc_past, c0_4, c0_5, rc0, rc0a, rc0b, rc0c, rc0n]; done))
      replace c0_5 : w56.cell? ⟨wr.heap.size, 5, none⟩ = some (.bool x5) := hx56.has (by first | exact c0_5 | (simp [go_sem, World.cell?_alloc_past, c0_4, c0_5, rc0, rc0a, rc0b, rc0c, rc0n]; done))
      have z56 := hx56.size
      try simp at z56
      replace rc0 : wr.heap.size < w56.heap.size := by omega
      replace rc0a : wr.heap.size < w56.heap.size + 1 := by omega
      replace rc0b : wr.heap.size < w56.heap.size + 1 + 1 := by omega
      replace rc0c : wr.heap.size < w56.heap.size + 1 + 1 + 1 := by omega
      replace rc0n : ¬ wr.heap.size = w56.heap.size := by omega
      replace HSk := Lib.hid (HSk.out.ext (Ext.trans (by repeat (first | with_reducible exact Ext.refl _ | with_reducible refine Ext.drew ?_ | with_reducible refine Ext.drewN ?_ _ | with_reducible refine Ext.alloc ?_ _ | with_reducible refine Ext.setCell ?_ (by first | omega | (simp; done) | (simp; omega)) _)) hx56))
      replace HWk := Lib.hid (HWk.out.ext (Ext.trans (by repeat (first | with_reducible exact Ext.refl _ | with_reducible refine Ext.drew ?_ | with_reducible refine Ext.drewN ?_ _ | with_reducible refine Ext.alloc ?_ _ | with_reducible refine Ext.setCell ?_ (by first | omega | (simp; done) | (simp; omega)) _)) hx56))
      replace HQ := Lib.hid (HQ.out.ext (Ext.trans (by repeat (first | with_reducible exact Ext.refl _ | with_reducible refine Ext.drew ?_ | with_reducible refine Ext.drewN ?_ _ | with_reducible refine Ext.alloc ?_ _ | with_reducible refine Ext.setCell ?_ (by first | omega | (simp; done) | (simp; omega)) _)) hx56))
      have X56 : Hid (Ext w w56) := Lib.hid (Ext.trans (by repeat (first | with_reducible exact X55.out | with_reducible refine Ext.drew ?_ | with_reducible refine Ext.drewN ?_ _ | with_reducible refine Ext.alloc ?_ _ | with_reducible refine Ext.setCell ?_ (by first | omega | (simp; done) | (simp; omega)) _)) hx56)
      clear X55 hx56 z56
      refine hK.out _ _ (by (first | exact ⟨c0_4, c0_5⟩ | (simp [go_sem, World.cell?_alloc_past, c0_4, c0_5, rc0, rc0a, rc0b, rc0c, rc0n]; done))) (fun hHeld => ?_); clear hK K; try simp only [Act.put, List.setIfInBounds_toArray, List.set_cons_zero, List.set_cons_succ]
      (refine' take_in 7 rfl (by kernel_rfl) (by kernel_rfl) (by kernel_rfl) (fun _ _ _ h => h) (by rfl) (by assumption) ?_ ?_; rotate_left; focus (intro w hSw; (try dsimp only at hSw); go_simp; try with_reducible rfl)); try simp only [Act.put, List.setIfInBounds_toArray, List.set_cons_zero, List.set_cons_succ]
      refine' next_in 8 rfl (by kernel_rfl) (by rfl) (fun K hK => ?_)
      go_simp
      (with_reducible refine (cWN_box g wr.heap.size 4096 ((((M0 ++ putL x0.toNat) ++ putL x1.toNat) ++ putL x2.toNat) ++ putL x3.toNat) (p1 + p2) (by have := HQ0.out; omega) (by have := HQ0.out; omega) (by have := HQ0.out; (try simp only [List.length_append]); omega) _ (HWk.out.ext (by repeat (first | with_reducible exact Ext.refl _ | with_reducible refine Ext.drew ?_ | with_reducible refine Ext.drewN ?_ _ | with_reducible refine Ext.alloc ?_ _ | with_reducible refine Ext.setCell ?_ (by first | omega | (simp; done) | (simp; omega)) _))) (HQ.out.ext (by repeat (first | with_reducible exact Ext.refl _ | with_reducible refine Ext.drew ?_ | with_reducible refine Ext.drewN ?_ _ | with_reducible refine Ext.alloc ?_ _ | with_reducible refine Ext.setCell ?_ (by first | omega | (simp; done) | (simp; omega)) _)))).mono ?_)
      rintro e w57 ⟨rfl, hW, hQ, hx57⟩
      have hsz57 := hx57.size
      try simp at hsz57
      replace c0_4 : w57.cell? ⟨wr.heap.size, 4, none⟩ = some (.bool x4) := hx57.has (fun hh => hh.1 rfl) (by first | exact c0_4 | (simp [go_sem, World.cell?_alloc_past, c0_4, c0_5, rc0, rc0a, rc0b, rc0c, rc0n]; done))
      replace c0_5 : w57.cell? ⟨wr.heap.size, 5, none⟩ = some (.bool x5) := hx57.has (fun hh => hh.1 rfl) (by first | exact c0_5 | (simp [go_sem, World.cell?_alloc_past, c0_4, c0_5, rc0, rc0a, rc0b, rc0c, rc0n]; done))
      have z57 := hx57.size
      try simp at z57
      replace rc0 : wr.heap.size < w57.heap.size := by omega
      replace rc0a : wr.heap.size < w57.heap.size + 1 := by omega
      replace rc0b : wr.heap.size < w57.heap.size + 1 + 1 := by omega
      replace rc0c : wr.heap.size < w57.heap.size + 1 + 1 + 1 := by omega
      replace rc0n : ¬ wr.heap.size = w57.heap.size := by omega
      have X57 : Hid (Ext w w57) := Lib.hid (have hX := (show Ext w _ from (by repeat (first | with_reducible exact X56.out | with_reducible refine Ext.drew ?_ | with_reducible refine Ext.drewN ?_ _ | with_reducible refine Ext.alloc ?_ _ | with_reducible refine Ext.setCell ?_ (by first | omega | (simp; done) | (simp; omega)) _))); Below.trans hX (hx57.below (Ext.size hX) (fun k hk hh => by have h2 : g ≤ k := hh.2; omega)))
      replace HSk := Lib.hid ((HSk.out.ext (by repeat (first | with_reducible exact Ext.refl _ | with_reducible refine Ext.drew ?_ | with_reducible refine Ext.drewN ?_ _ | with_reducible refine Ext.alloc ?_ _ | with_reducible refine Ext.setCell ?_ (by first | omega | (simp; done) | (simp; omega)) _))).but hx57 (fun k hk => by have h2 : g ≤ k := hk.2; omega))
      clear HWk HQ
      have HWk := Lib.hid hW
      have HQ := Lib.hid hQ
      clear hsz57 X56 hx57 z57 hW hQ
      refine hK.out _ _ (by (first | exact ⟨c0_4, c0_5⟩ | (simp [go_sem, World.cell?_alloc_past, c0_4, c0_5, rc0, rc0a, rc0b, rc0c, rc0n]; done))) (fun hHeld => ?_); clear hK K; try simp only [Act.put, List.setIfInBounds_toArray, List.set_cons_zero, List.set_cons_succ]
      refine wpAnyH_done (by kernel_rfl) ?_ _
      go_wp2_with fail
      go_roundg (gk - 1)
      case measure => have := HK.out; omega
      case rel =>
        refine ⟨by have := HK.out; omega, num_eq (by have := HK.out; omega), Lib.hid ?_, Lib.hid (HSk.out.ext (by repeat (first | with_reducible exact Ext.refl _ | with_reducible refine Ext.drew ?_ | with_reducible refine Ext.drewN ?_ _ | with_reducible refine Ext.alloc ?_ _ | with_reducible refine Ext.setCell ?_ (by first | omega | (simp; done) | (simp; omega)) _))), (by repeat (first | with_reducible exact X57.out | with_reducible refine Ext.drew ?_ | with_reducible refine Ext.drewN ?_ _ | with_reducible refine Ext.alloc ?_ _ | with_reducible refine Ext.setCell ?_ (by first | omega | (simp; done) | (simp; omega)) _))⟩
        rw [show l.length - (gk - 1) = k + 1 from by have := HK.out; omega, HNX.out]
        have h := (HWk.out.ext (by repeat (first | with_reducible exact Ext.refl _ | with_reducible refine Ext.drew ?_ | with_reducible refine Ext.drewN ?_ _ | with_reducible refine Ext.alloc ?_ _ | with_reducible refine Ext.setCell ?_ (by first | omega | (simp; done) | (simp; omega)) _)))
        simpa [valB, HBI.out] using h
theorem rosBytes_any (A : Option Addr) (c : Nat) (l : List (Int × Int × Int × Int × Bool × Bool)) (w : World) (hs : Sl w 6 A l.length c (l.flatMap valC)) (hw : ∀ x ∈ l, (Lit.int .i64 x.1).wf = true) (hm : ∀ x ∈ l, Fits .u64 x.2.1) : Calls Try.prog 74 #[.slice A l.length c] w (ByErr (rosB l) (chkV l).1 w) := by
  by_cases hc : (chkV l).1 = 0
  · exact rosBytes_ok A c l _ _ w hs hw hm rfl hc
  · exact rosBytes_chk A c l _ _ w hs hw hm rfl hc
set_option maxRecDepth 100000 in
set_option maxHeartbeats 2000000 in
theorem rBytes16_chk (A : Option Addr) (c : Nat) (l : List (Int × Int × Int × Int × Bool × Bool)) (f1 f2 : Int) (w : World) (hs : Sl w 6 A l.length c (l.flatMap valC)) (hm : ∀ x ∈ l, Fits .u64 x.2.1) (hf : (f1, f2) = chkV l) (hc : f1 ≠ 0) :
    Calls Try.prog 75 #[.slice A l.length c] w (ByErr (rosB l) f1 w) := by
  have s1 := hs.small
  have e7 : (f1 != 0) = true := by simpa using hc
  have hB : rosB l = [] := by unfold rosB; rw [← hf]; exact if_neg hc
  rw [hB]
  have HS := Lib.hid hs.low
  have Hf := Lib.hid hf
  have HM := Lib.hid hm
  clear hs hf hm
  go_enter Try.func75, Try.ntmps75
  go_wp2_with fail
  (with_reducible refine (rCheck16_ev A l.length c l f1 f2 _ (HS.out.ext (by repeat (first | with_reducible exact Ext.refl _ | with_reducible refine Ext.drew ?_ | with_reducible refine Ext.drewN ?_ _ | with_reducible refine Ext.alloc ?_ _ | with_reducible refine Ext.setCell ?_ (by first | omega | (simp; done) | (simp; omega)) _))).sl Hf.out).mono ?_)
  rintro e w1 ⟨rfl, hx1⟩
  have z1 := hx1.size
  try simp at z1
  replace HS := Lib.hid (HS.out.ext (Ext.trans (by repeat (first | with_reducible exact Ext.refl _ | with_reducible refine Ext.drew ?_ | with_reducible refine Ext.drewN ?_ _ | with_reducible refine Ext.alloc ?_ _ | with_reducible refine Ext.setCell ?_ (by first | omega | (simp; done) | (simp; omega)) _)) hx1))
  have X1 : Hid (Ext w w1) := Lib.hid (Ext.trans (by repeat (first | with_reducible exact Ext.refl w | with_reducible refine Ext.drew ?_ | with_reducible refine Ext.drewN ?_ _ | with_reducible refine Ext.alloc ?_ _ | with_reducible refine Ext.setCell ?_ (by first | omega | (simp; done) | (simp; omega)) _)) hx1)
  clear hx1 z1
  go_wp2_with fail
  refine bodyPost_ret (v := .tuple #[.slice none 0 0, .int .i64 f1]) (by simp [results, Try.results75, go_sem, World.cell?_alloc_past]; try rfl) rfl ⟨_, rfl, World.ownsRow_nil _ _ _ _, ?_⟩
  exact (by repeat (first | with_reducible exact X1.out | with_reducible refine Ext.drew ?_ | with_reducible refine Ext.drewN ?_ _ | with_reducible refine Ext.alloc ?_ _ | with_reducible refine Ext.setCell ?_ (by first | omega | (simp; done) | (simp; omega)) _))
set_option maxRecDepth 100000 in
set_option maxHeartbeats 2000000 in
theorem rBytes16_ok (A : Option Addr) (c : Nat) (l : List (Int × Int × Int × Int × Bool × Bool)) (f1 f2 : Int) (w : World) (hs : Sl w 6 A l.length c (l.flatMap valC)) (hm : ∀ x ∈ l, Fits .u64 x.2.1) (hf : (f1, f2) = chkV l) (hc : f1 = 0) :
    Calls Try.prog 75 #[.slice A l.length c] w (ByErr (rosB l) f1 w) := by
  have s1 := hs.small
  subst hc
  have hch : (chkV l).1 = 0 := by rw [← hf]
  have hB : rosB l = putL l.length ++ l.flatMap valB := by unfold rosB; exact if_pos hch
  rw [hB]
  have h32 := (chkV_zero hch).2.1
  have HC := Lib.hid hch
  clear hB hch
  have HS := Lib.hid hs.low
  have Hf := Lib.hid hf
  have HM := Lib.hid hm
  clear hs hf hm
  go_enter Try.func75, Try.ntmps75
  go_wp2_with fail
  (with_reducible refine (rCheck16_ev A l.length c l 0 f2 _ (HS.out.ext (by repeat (first | with_reducible exact Ext.refl _ | with_reducible refine Ext.drew ?_ | with_reducible refine Ext.drewN ?_ _ | with_reducible refine Ext.alloc ?_ _ | with_reducible refine Ext.setCell ?_ (by first | omega | (simp; done) | (simp; omega)) _))).sl Hf.out).mono ?_)
  rintro e w1 ⟨rfl, hx1⟩
  have z1 := hx1.size
  try simp at z1
  replace HS := Lib.hid (HS.out.ext (Ext.trans (by repeat (first | with_reducible exact Ext.refl _ | with_reducible refine Ext.drew ?_ | with_reducible refine Ext.drewN ?_ _ | with_reducible refine Ext.alloc ?_ _ | with_reducible refine Ext.setCell ?_ (by first | omega | (simp; done) | (simp; omega)) _)) hx1))
  have X1 : Hid (Ext w w1) := Lib.hid (Ext.trans (by repeat (first | with_reducible exact Ext.refl w | with_reducible refine Ext.drew ?_ | with_reducible refine Ext.drewN ?_ _ | with_reducible refine Ext.alloc ?_ _ | with_reducible refine Ext.setCell ?_ (by first | omega | (simp; done) | (simp; omega)) _)) hx1)
  clear hx1 z1
  go_wp2_with fail
  have hx0 := Ext.size X1.out
  (with_reducible refine (rNewWriter_ex 1048576 (by decide) (by decide) _).mono ?_)
  rintro e w2 ⟨g, rfl, hg, hW, hx2⟩
  have z2 := hx2.size
  try simp at z2
  replace HS := Lib.hid (HS.out.ext (Ext.trans (by repeat (first | with_reducible exact Ext.refl _ | with_reducible refine Ext.drew ?_ | with_reducible refine Ext.drewN ?_ _ | with_reducible refine Ext.alloc ?_ _ | with_reducible refine Ext.setCell ?_ (by first | omega | (simp; done) | (simp; omega)) _)) hx2))
  have X2 : Hid (Ext w w2) := Lib.hid (Ext.trans (by repeat (first | with_reducible exact X1.out | with_reducible refine Ext.drew ?_ | with_reducible refine Ext.drewN ?_ _ | with_reducible refine Ext.alloc ?_ _ | with_reducible refine Ext.setCell ?_ (by first | omega | (simp; done) | (simp; omega)) _)) hx2)
  have HWr := Lib.hid hW
  clear X1 hx2 z2 hW
  have hgw : w.heap.size ≤ g := by have := Ext.size X2.out; (try simp at hg); have := hx0; omega
  clear hg
  go_wp2_with fail
  (with_reducible refine (rWN_fit g 1048576 [] (l.length : Int) (by omega) (by omega) (by simp) _ (HWr.out.ext (by repeat (first | with_reducible exact Ext.refl _ | with_reducible refine Ext.drew ?_ | with_reducible refine Ext.drewN ?_ _ | with_reducible refine Ext.alloc ?_ _ | with_reducible refine Ext.setCell ?_ (by first | omega | (simp; done) | (simp; omega)) _)))).mono ?_)
  rintro e w3 ⟨rfl, hW, hx3⟩
  have hsz3 := hx3.size
  try simp at hsz3
  have z3 := hx3.size
  try simp at z3
  have X3 : Hid (Ext w w3) := Lib.hid (have hX := (show Ext w _ from (by repeat (first | with_reducible exact X2.out | with_reducible refine Ext.drew ?_ | with_reducible refine Ext.drewN ?_ _ | with_reducible refine Ext.alloc ?_ _ | with_reducible refine Ext.setCell ?_ (by first | omega | (simp; done) | (simp; omega)) _))); Below.trans hX (hx3.below (Ext.size hX) (fun k hk hh => by have h2 : g ≤ k := hh; omega)))
  replace HS := Lib.hid ((HS.out.ext (by repeat (first | with_reducible exact Ext.refl _ | with_reducible refine Ext.drew ?_ | with_reducible refine Ext.drewN ?_ _ | with_reducible refine Ext.alloc ?_ _ | with_reducible refine Ext.setCell ?_ (by first | omega | (simp; done) | (simp; omega)) _))).but hx3 (fun k hk => by have h2 : g ≤ k := hk; omega))
  clear HWr
  have HWr := Lib.hid (show RWr _ g 1048576 0 (putL l.length) from by simpa using hW)
  clear hsz3 X2 hx3 z3
  have HW0 : Hid (RWr _ g 1048576 0 (putL l.length ++ (l.take 0).flatMap valB)) := Lib.hid (by simpa using HWr.out)
  go_wp2_with fail
  go_loopg [8] l.length (fun gh i wx => gh ≤ l.length ∧ i = .int .i64 ((l.length - gh : Nat) : Int) ∧ Hid (RWr wx g 1048576 0 (putL l.length ++ (l.take (l.length - gh)).flatMap valB)) ∧ Hid (SlB w.heap.size wx 6 A l.length c (l.flatMap valC)) ∧ Ext w wx)
  case atStart => exact ⟨Nat.le_refl _, by simp, by rw [Nat.sub_self]; exact HW0, HS, X3.out⟩
  case round =>
    obtain ⟨hg, hi, hw, hs, hx⟩ := hrel
    obtain ⟨k, hk⟩ : ∃ k, k = l.length - gk := ⟨_, rfl⟩
    rw [← hk] at hi hw
    subst hi
    have XR := Lib.hid hx
    have HWk := hw
    have HSk := hs
    by_cases hz : gk = 0
    · have hkn : ¬ (k : Int) < l.length := by omega
      have hkl : k = l.length := by omega
      have HWE : Hid (RWr wr g 1048576 0 (putL l.length ++ l.flatMap valB)) := Lib.hid (by have h := hw.out; rw [hkl, List.take_length] at h; exact h)
      clear hx hk hg hz hw hs hkl HWk HSk
      go_wp2_with fail
      have hrm := Ext.size XR.out
      (with_reducible refine ((show _ from rDone_ok g 1048576 _ _ (HWE.out.ext (by repeat (first | with_reducible exact Ext.refl _ | with_reducible refine Ext.drew ?_ | with_reducible refine Ext.drewN ?_ _ | with_reducible refine Ext.alloc ?_ _ | with_reducible refine Ext.setCell ?_ (by first | omega | (simp; done) | (simp; omega)) _))))).mono ?_)
      rintro e w41 ⟨v, rfl, hV, hx41⟩
      have z41 := hx41.size
      try simp at z41
      replace HWE := Lib.hid (HWE.out.ext (Ext.trans (by repeat (first | with_reducible exact Ext.refl _ | with_reducible refine Ext.drew ?_ | with_reducible refine Ext.drewN ?_ _ | with_reducible refine Ext.alloc ?_ _ | with_reducible refine Ext.setCell ?_ (by first | omega | (simp; done) | (simp; omega)) _)) hx41))
      have X41 : Hid (Ext w w41) := Lib.hid (Ext.trans (by repeat (first | with_reducible exact XR.out | with_reducible refine Ext.drew ?_ | with_reducible refine Ext.drewN ?_ _ | with_reducible refine Ext.alloc ?_ _ | with_reducible refine Ext.setCell ?_ (by first | omega | (simp; done) | (simp; omega)) _)) hx41)
      have HV := Lib.hid hV
      clear XR hx41 z41 hV
      go_wp2_with fail
      refine bodyPost_ret (v := .tuple #[v, .int .i64 0]) (by simp [results, Try.results75]; try rfl) rfl ⟨v, rfl, own_lower HV.out ?_, (by repeat (first | with_reducible exact X41.out | with_reducible refine Ext.drew ?_ | with_reducible refine Ext.drewN ?_ _ | with_reducible refine Ext.alloc ?_ _ | with_reducible refine Ext.setCell ?_ (by first | omega | (simp; done) | (simp; omega)) _))⟩
      have h := hrm
      (try simp at h)
      omega
    · have hkn : (k : Int) < l.length := by omega
      have hk1 : k < l.length := by omega
      obtain ⟨b1, o1, rfl, hb1, hc1⟩ := hs.out.sl.rec_ valC_len (show 0 < l.length from by omega)
      have hb1w := hs.out.2 (by omega) b1 o1 none rfl
      have x_0 := hc1 k _ (List.getElem?_eq_getElem hk1) 0 _ rfl
      have x_1 := hc1 k _ (List.getElem?_eq_getElem hk1) 1 _ rfl
      have x_2 := hc1 k _ (List.getElem?_eq_getElem hk1) 2 _ rfl
      have x_3 := hc1 k _ (List.getElem?_eq_getElem hk1) 3 _ rfl
      have x_4 := hc1 k _ (List.getElem?_eq_getElem hk1) 4 _ rfl
      have x_5 := hc1 k _ (List.getElem?_eq_getElem hk1) 5 _ rfl
      obtain ⟨x, hxx⟩ : ∃ x, x = l[k] := ⟨_, rfl⟩
      have hlk : l[k]? = some x := by rw [hxx]; exact List.getElem?_eq_getElem hk1
      rw [← hxx] at x_0 x_1 x_2 x_3 x_4 x_5
      have hr := val_in HC.out hlk
      have hu := (HM.out x (List.mem_of_getElem? hlk)).u64
      have hM := val_fit HC.out HM.out k
      have ht := valC_take hlk
      obtain ⟨M0, hM0⟩ : ∃ M0, M0 = putL l.length ++ (l.take k).flatMap valB := ⟨_, rfl⟩
      rw [← hM0] at hM HWk
      have hnext : putL l.length ++ (l.take (k + 1)).flatMap valB = M0 ++ valB x := by rw [ht, List.flatMap_append, ← List.append_assoc, ← hM0]; simp
      obtain ⟨x0, x1, x2, x3, x4, x5⟩ := x
      simp only at x_0 x_1 x_2 x_3 x_4 x_5 hr hu
      rw [Nat.add_zero] at x_0
      rw [← Nat.add_assoc] at x_1 x_2 x_3 x_4 x_5
      obtain ⟨p1, hp1⟩ : ∃ p : Int, p = if x4 = true then 1 else 0 := ⟨_, rfl⟩
      obtain ⟨p2, hp2⟩ : ∃ p : Int, p = if x5 = true then 2 else 0 := ⟨_, rfl⟩
      have hbits : bitsV x4 x5 = p1 + p2 := by unfold bitsV; rw [hp1, hp2]
      have b1a : 0 ≤ p1 ∧ p1 ≤ 1 := by rw [hp1]; split <;> omega
      have b2a : 0 ≤ p2 ∧ p2 ≤ 2 := by rw [hp2]; split <;> omega
      have c0 := putL_ten (N := x0.toNat) (by omega)
      have c1' := putL_ten (N := x1.toNat) (by omega)
      have c2' := putL_ten (N := x2.toNat) (by omega)
      have c3' := putL_ten (N := x3.toNat) (by omega)
      have HQ0 := Lib.hid (And.intro hr (And.intro hu (And.intro hM (And.intro c0 (And.intro c1' (And.intro c2' c3'))))))
      have HP1 := Lib.hid hp1
      have HP2 := Lib.hid hp2
      have HNX := Lib.hid hnext
      have HBI := Lib.hid hbits
      have HK := Lib.hid (And.intro hk (And.intro hg hz))
      obtain ⟨p10, p11⟩ := b1a
      obtain ⟨p20, p21⟩ := b2a
      have hwrap : IntKind.i64.wrap (p1 + p2) = p1 + p2 := IntWalk.i64_in _ (by omega)
      clear hx hk hg hz hc1 hxx hlk hr hu hM ht hnext hp1 hp2 hbits c0 c1' c2' c3' hw hs hM0
      go_wp2_with fail
      (with_reducible refine (rWN_fit g 1048576 M0 x0 (by have := HQ0.out; omega) (by have := HQ0.out; omega) (by have := HQ0.out; (try simp only [List.length_append]); omega) _ (HWk.out.ext (by repeat (first | with_reducible exact Ext.refl _ | with_reducible refine Ext.drew ?_ | with_reducible refine Ext.drewN ?_ _ | with_reducible refine Ext.alloc ?_ _ | with_reducible refine Ext.setCell ?_ (by first | omega | (simp; done) | (simp; omega)) _)))).mono ?_)
      rintro e w51 ⟨rfl, hW, hx51⟩
      have hsz51 := hx51.size
      try simp at hsz51
      replace x_1 : w51.cell? ⟨b1, o1 + k * 6 + 1, none⟩ = some (.int .u64 x1) := hx51.has (by show ¬ g ≤ _; omega) (by first | exact x_1 | (simp [go_sem, World.cell?_alloc_past, x_0, x_1, x_2, x_3, x_4, x_5]; done))
      replace x_2 : w51.cell? ⟨b1, o1 + k * 6 + 2, none⟩ = some (.int .i64 x2) := hx51.has (by show ¬ g ≤ _; omega) (by first | exact x_2 | (simp [go_sem, World.cell?_alloc_past, x_0, x_1, x_2, x_3, x_4, x_5]; done))
      replace x_3 : w51.cell? ⟨b1, o1 + k * 6 + 3, none⟩ = some (.int .i64 x3) := hx51.has (by show ¬ g ≤ _; omega) (by first | exact x_3 | (simp [go_sem, World.cell?_alloc_past, x_0, x_1, x_2, x_3, x_4, x_5]; done))
      replace x_4 : w51.cell? ⟨b1, o1 + k * 6 + 4, none⟩ = some (.bool x4) := hx51.has (by show ¬ g ≤ _; omega) (by first | exact x_4 | (simp [go_sem, World.cell?_alloc_past, x_0, x_1, x_2, x_3, x_4, x_5]; done))
      replace x_5 : w51.cell? ⟨b1, o1 + k * 6 + 5, none⟩ = some (.bool x5) := hx51.has (by show ¬ g ≤ _; omega) (by first | exact x_5 | (simp [go_sem, World.cell?_alloc_past, x_0, x_1, x_2, x_3, x_4, x_5]; done))
      have z51 := hx51.size
      try simp at z51
      have rx : b1 < w51.heap.size := by omega
      have rxa : b1 < w51.heap.size + 1 := by omega
      have rxb : b1 < w51.heap.size + 1 + 1 := by omega
      have rxc : b1 < w51.heap.size + 1 + 1 + 1 := by omega
      have rxn : ¬ b1 = w51.heap.size := by omega
      have X51 : Hid (Ext w w51) := Lib.hid (have hX := (show Ext w _ from (by repeat (first | with_reducible exact XR.out | with_reducible refine Ext.drew ?_ | with_reducible refine Ext.drewN ?_ _ | with_reducible refine Ext.alloc ?_ _ | with_reducible refine Ext.setCell ?_ (by first | omega | (simp; done) | (simp; omega)) _))); Below.trans hX (hx51.below (Ext.size hX) (fun k hk hh => by have h2 : g ≤ k := hh; omega)))
      replace HSk := Lib.hid ((HSk.out.ext (by repeat (first | with_reducible exact Ext.refl _ | with_reducible refine Ext.drew ?_ | with_reducible refine Ext.drewN ?_ _ | with_reducible refine Ext.alloc ?_ _ | with_reducible refine Ext.setCell ?_ (by first | omega | (simp; done) | (simp; omega)) _))).but hx51 (fun k hk => by have h2 : g ≤ k := hk; omega))
      clear HWk
      have HWk := Lib.hid hW
      clear x_0 hsz51 XR hx51 z51 hW
      go_wp2_with fail
      (with_reducible refine (rWU_fit g 1048576 (M0 ++ putL x0.toNat) x1 (by have := HQ0.out; omega) (by have := HQ0.out; omega) (by have := HQ0.out; (try simp only [List.length_append]); omega) _ (HWk.out.ext (by repeat (first | with_reducible exact Ext.refl _ | with_reducible refine Ext.drew ?_ | with_reducible refine Ext.drewN ?_ _ | with_reducible refine Ext.alloc ?_ _ | with_reducible refine Ext.setCell ?_ (by first | omega | (simp; done) | (simp; omega)) _)))).mono ?_)
      rintro e w52 ⟨rfl, hW, hx52⟩
      have hsz52 := hx52.size
      try simp at hsz52
      replace x_2 : w52.cell? ⟨b1, o1 + k * 6 + 2, none⟩ = some (.int .i64 x2) := hx52.has (by show ¬ g ≤ _; omega) (by first | exact x_2 | (simp [go_sem, World.cell?_alloc_past, x_1, x_2, x_3, x_4, x_5, rx, rxa, rxb, rxc, rxn]; done))
      replace x_3 : w52.cell? ⟨b1, o1 + k * 6 + 3, none⟩ = some (.int .i64 x3) := hx52.has (by show ¬ g ≤ _; omega) (by first | exact x_3 | (simp [go_sem, World.cell?_alloc_past, x_1, x_2, x_3, x_4, x_5, rx, rxa, rxb, rxc, rxn]; done))
      replace x_4 : w52.cell? ⟨b1, o1 + k * 6 + 4, none⟩ = some (.bool x4) := hx52.has (by show ¬ g ≤ _; omega) (by first | exact x_4 | (simp [go_sem, World.cell?_alloc_past, x_1, x_2, x_3, x_4, x_5, rx, rxa, rxb, rxc, rxn]; done))
      replace x_5 : w52.cell? ⟨b1, o1 + k * 6 + 5, none⟩ = some (.bool x5) := hx52.has (by show ¬ g ≤ _; omega) (by first | exact x_5 | (simp [go_sem, World.cell?_alloc_past, x_1, x_2, x_3, x_4, x_5, rx, rxa, rxb, rxc, rxn]; done))
      have z52 := hx52.size
      try simp at z52
      replace rx : b1 < w52.heap.size := by omega
      replace rxa : b1 < w52.heap.size + 1 := by omega
      replace rxb : b1 < w52.heap.size + 1 + 1 := by omega
      replace rxc : b1 < w52.heap.size + 1 + 1 + 1 := by omega
      replace rxn : ¬ b1 = w52.heap.size := by omega
      have X52 : Hid (Ext w w52) := Lib.hid (have hX := (show Ext w _ from (by repeat (first | with_reducible exact X51.out | with_reducible refine Ext.drew ?_ | with_reducible refine Ext.drewN ?_ _ | with_reducible refine Ext.alloc ?_ _ | with_reducible refine Ext.setCell ?_ (by first | omega | (simp; done) | (simp; omega)) _))); Below.trans hX (hx52.below (Ext.size hX) (fun k hk hh => by have h2 : g ≤ k := hh; omega)))
      replace HSk := Lib.hid ((HSk.out.ext (by repeat (first | with_reducible exact Ext.refl _ | with_reducible refine Ext.drew ?_ | with_reducible refine Ext.drewN ?_ _ | with_reducible refine Ext.alloc ?_ _ | with_reducible refine Ext.setCell ?_ (by first | omega | (simp; done) | (simp; omega)) _))).but hx52 (fun k hk => by have h2 : g ≤ k := hk; omega))
      clear HWk
      have HWk := Lib.hid hW
      clear x_1 hsz52 X51 hx52 z52 hW
      go_wp2_with fail
      (with_reducible refine (rWN_fit g 1048576 ((M0 ++ putL x0.toNat) ++ putL x1.toNat) x2 (by have := HQ0.out; omega) (by have := HQ0.out; omega) (by have := HQ0.out; (try simp only [List.length_append]); omega) _ (HWk.out.ext (by repeat (first | with_reducible exact Ext.refl _ | with_reducible refine Ext.drew ?_ | with_reducible refine Ext.drewN ?_ _ | with_reducible refine Ext.alloc ?_ _ | with_reducible refine Ext.setCell ?_ (by first | omega | (simp; done) | (simp; omega)) _)))).mono ?_)
      rintro e w53 ⟨rfl, hW, hx53⟩
      have hsz53 := hx53.size
      try simp at hsz53
      replace x_3 : w53.cell? ⟨b1, o1 + k * 6 + 3, none⟩ = some (.int .i64 x3) := hx53.has (by show ¬ g ≤ _; omega) (by first | exact x_3 | (simp [go_sem, World.cell?_alloc_past, x_2, x_3, x_4, x_5, rx, rxa, rxb, rxc, rxn]; done))
      replace x_4 : w53.cell? ⟨b1, o1 + k * 6 + 4, none⟩ = some (.bool x4) := hx53.has (by show ¬ g ≤ _; omega) (by first | exact x_4 | (simp [go_sem, World.cell?_alloc_past, x_2, x_3, x_4, x_5, rx, rxa, rxb, rxc, rxn]; done))
      replace x_5 : w53.cell? ⟨b1, o1 + k * 6 + 5, none⟩ = some (.bool x5) := hx53.has (by show ¬ g ≤ _; omega) (by first | exact x_5 | (simp [go_sem, World.cell?_alloc_past, x_2, x_3, x_4, x_5, rx, rxa, rxb, rxc, rxn]; done))
      have z53 := hx53.size
      try simp at z53
      replace rx : b1 < w53.heap.size := by omega
      replace rxa : b1 < w53.heap.size + 1 := by omega
      replace rxb : b1 < w53.heap.size + 1 + 1 := by omega
      replace rxc : b1 < w53.heap.size + 1 + 1 + 1 := by omega
      replace rxn : ¬ b1 = w53.heap.size := by omega
      have X53 : Hid (Ext w w53) := Lib.hid (have hX := (show Ext w _ from (by repeat (first | with_reducible exact X52.out | with_reducible refine Ext.drew ?_ | with_reducible refine Ext.drewN ?_ _ | with_reducible refine Ext.alloc ?_ _ | with_reducible refine Ext.setCell ?_ (by first | omega | (simp; done) | (simp; omega)) _))); Below.trans hX (hx53.below (Ext.size hX) (fun k hk hh => by have h2 : g ≤ k := hh; omega)))
      replace HSk := Lib.hid ((HSk.out.ext (by repeat (first | with_reducible exact Ext.refl _ | with_reducible refine Ext.drew ?_ | with_reducible refine Ext.drewN ?_ _ | with_reducible refine Ext.alloc ?_ _ | with_reducible refine Ext.setCell ?_ (by first | omega | (simp; done) | (simp; omega)) _))).but hx53 (fun k hk => by have h2 : g ≤ k := hk; omega))
      clear HWk
      have HWk := Lib.hid hW
      clear x_2 hsz53 X52 hx53 z53 hW
      go_wp2_with fail
      (with_reducible refine (rWN_fit g 1048576 (((M0 ++ putL x0.toNat) ++ putL x1.toNat) ++ putL x2.toNat) x3 (by have := HQ0.out; omega) (by have := HQ0.out; omega) (by have := HQ0.out; (try simp only [List.length_append]); omega) _ (HWk.out.ext (by repeat (first | with_reducible exact Ext.refl _ | with_reducible refine Ext.drew ?_ | with_reducible refine Ext.drewN ?_ _ | with_reducible refine Ext.alloc ?_ _ | with_reducible refine Ext.setCell ?_ (by first | omega | (simp; done) | (simp; omega)) _)))).mono ?_)
      rintro e w54 ⟨rfl, hW, hx54⟩
      have hsz54 := hx54.size
      try simp at hsz54
      replace x_4 : w54.cell? ⟨b1, o1 + k * 6 + 4, none⟩ = some (.bool x4) := hx54.has (by show ¬ g ≤ _; omega) (by first | exact x_4 | (simp [go_sem, World.cell?_alloc_past, x_3, x_4, x_5, rx, rxa, rxb, rxc, rxn]; done))
      replace x_5 : w54.cell? ⟨b1, o1 + k * 6 + 5, none⟩ = some (.bool x5) := hx54.has (by show ¬ g ≤ _; omega) (by first | exact x_5 | (simp [go_sem, World.cell?_alloc_past, x_3, x_4, x_5, rx, rxa, rxb, rxc, rxn]; done))
      have z54 := hx54.size
      try simp at z54
      replace rx : b1 < w54.heap.size := by omega
      replace rxa : b1 < w54.heap.size + 1 := by omega
      replace rxb : b1 < w54.heap.size + 1 + 1 := by omega
      replace rxc : b1 < w54.heap.size + 1 + 1 + 1 := by omega
      replace rxn : ¬ b1 = w54.heap.size := by omega
      have X54 : Hid (Ext w w54) := Lib.hid (have hX := (show Ext w _ from (by repeat (first | with_reducible exact X53.out | with_reducible refine Ext.drew ?_ | with_reducible refine Ext.drewN ?_ _ | with_reducible refine Ext.alloc ?_ _ | with_reducible refine Ext.setCell ?_ (by first | omega | (simp; done) | (simp; omega)) _))); Below.trans hX (hx54.below (Ext.size hX) (fun k hk hh => by have h2 : g ≤ k := hh; omega)))
      replace HSk := Lib.hid ((HSk.out.ext (by repeat (first | with_reducible exact Ext.refl _ | with_reducible refine Ext.drew ?_ | with_reducible refine Ext.drewN ?_ _ | with_reducible refine Ext.alloc ?_ _ | with_reducible refine Ext.setCell ?_ (by first | omega | (simp; done) | (simp; omega)) _))).but hx54 (fun k hk => by have h2 : g ≤ k := hk; omega))
      clear HWk
      have HWk := Lib.hid hW
      clear x_3 hsz54 X53 hx54 z54 hW
      go_wp2_with fail
      refine wp_region_held_drew (S := fun w' => w'.cell? ⟨b1, o1 + k * 6 + 4, none⟩ = some (.bool x4) ∧ w'.cell? ⟨b1, o1 + k * 6 + 5, none⟩ = some (.bool x5)) (by kernel_rfl) (by first | exact ⟨x_4, x_5⟩ | (simp [go_sem, World.cell?_alloc_past, x_4, x_5, rx, rxa, rxb, rxc, rxn]; done)) (fun hHeld => ?_)
      (refine' take_in 0 rfl (by kernel_rfl) (by kernel_rfl) (by kernel_rfl) (fun _ _ _ h => h) (by rfl) (by assumption) ?_ ?_; rotate_left; focus (intro w hSw; (try dsimp only at hSw); go_simp; try with_reducible rfl)); try simp only [Act.put, List.setIfInBounds_toArray, List.set_cons_zero, List.set_cons_succ]
      (refine' take_in 1 rfl (by kernel_rfl) (by kernel_rfl) (by kernel_rfl) (fun _ _ _ h => h) (by rfl) (by assumption) ?_ ?_; rotate_left; focus (intro w hSw; (try dsimp only at hSw); go_simp; try with_reducible rfl)); try simp only [Act.put, List.setIfInBounds_toArray, List.set_cons_zero, List.set_cons_succ]
      (refine' take_in 2 rfl (by kernel_rfl) (by kernel_rfl) (by kernel_rfl) (fun _ _ _ h => h) (by rfl) (by assumption) ?_ ?_; rotate_left; focus (intro w hSw; (try dsimp only at hSw); go_simp; try with_reducible rfl)); try simp only [Act.put, List.setIfInBounds_toArray, List.set_cons_zero, List.set_cons_succ]
      (refine' take_in 3 rfl (by kernel_rfl) (by kernel_rfl) (by kernel_rfl) (fun _ _ _ h => h) (by rfl) (by assumption) ?_ ?_; rotate_left; focus (intro w hSw; (try dsimp only at hSw); go_simp; try with_reducible rfl)); try simp only [Act.put, List.setIfInBounds_toArray, List.set_cons_zero, List.set_cons_succ]
      (refine' take_in 4 rfl (by kernel_rfl) (by kernel_rfl) (by kernel_rfl) (fun _ _ _ h => h) (by rfl) (by assumption) ?_ ?_; rotate_left; focus (intro w hSw; (try dsimp only at hSw); go_simp; try with_reducible rfl)); try simp only [Act.put, List.setIfInBounds_toArray, List.set_cons_zero, List.set_cons_succ]
      (refine' take_in 5 rfl (by kernel_rfl) (by kernel_rfl) (by kernel_rfl) (fun _ _ _ h => h) (by rfl) (by assumption) ?_ ?_; rotate_left; focus (intro w hSw; (try dsimp only at hSw); go_simp; try with_reducible rfl)); try simp only [Act.put, List.setIfInBounds_toArray, List.set_cons_zero, List.set_cons_succ]
      (refine' take_in 7 rfl (by kernel_rfl) (by kernel_rfl) (by kernel_rfl) (fun _ _ _ h => h) (by rfl) (by assumption) ?_ ?_; rotate_left; focus (intro w hSw; (try dsimp only at hSw); go_simp; try with_reducible rfl)); try simp only [Act.put, List.setIfInBounds_toArray, List.set_cons_zero, List.set_cons_succ]
      (refine' take_in 8 rfl (by kernel_rfl) (by kernel_rfl) (by kernel_rfl) (fun _ _ _ h => h) (by rfl) (by assumption) ?_ ?_; rotate_left; focus (intro w hSw; (try dsimp only at hSw); go_simp; try with_reducible rfl)); try simp only [Act.put, List.setIfInBounds_toArray, List.set_cons_zero, List.set_cons_succ]
      (refine' take_in 9 rfl (by kernel_rfl) (by kernel_rfl) (by kernel_rfl) (fun _ _ _ h => h) (by rfl) (by assumption) ?_ ?_; rotate_left; focus (intro w hSw; (try dsimp only at hSw); go_simp; try with_reducible rfl)); try simp only [Act.put, List.setIfInBounds_toArray, List.set_cons_zero, List.set_cons_succ]
      (refine' take_in 10 rfl (by kernel_rfl) (by kernel_rfl) (by kernel_rfl) (fun _ _ _ h => h) (by rfl) (by assumption) ?_ ?_; rotate_left; focus (intro w hSw; (try dsimp only at hSw); go_simp; try with_reducible rfl)); try simp only [Act.put, List.setIfInBounds_toArray, List.set_cons_zero, List.set_cons_succ]
      (refine' take_in 11 rfl (by kernel_rfl) (by kernel_rfl) (by kernel_rfl) (fun _ _ _ h => h) (by rfl) (by assumption) ?_ ?_; rotate_left; focus (intro w hSw; (try dsimp only at hSw); go_simp; try with_reducible rfl)); try simp only [Act.put, List.setIfInBounds_toArray, List.set_cons_zero, List.set_cons_succ]
      refine' next_in 6 rfl (by kernel_rfl) (by rfl) (fun K hK => ?_)
      go_simp
      (with_reducible refine (rBit16_any x4 1 p1 _ HP1.out).mono ?_)
      rintro e w55 ⟨rfl, hx55⟩
      replace x_4 : w55.cell? ⟨b1, o1 + k * 6 + 4, none⟩ = some (.bool x4) := hx55.has (by first | exact x_4 | (simp [go_sem, World.cell?_alloc_past, x_4, x_5, rx, rxa, rxb, rxc, rxn]; done))
      replace x_5 : w55.cell? ⟨b1, o1 + k * 6 + 5, none⟩ = some (.bool x5) := hx55.has (by first | exact x_5 | (simp [go_sem, World.cell?_alloc_past, x_4, x_5, rx, rxa, rxb, rxc, rxn]; done))
      have z55 := hx55.size
      try simp at z55
      replace rx : b1 < w55.heap.size := by omega
      replace rxa : b1 < w55.heap.size + 1 := by omega
      replace rxb : b1 < w55.heap.size + 1 + 1 := by omega
      replace rxc : b1 < w55.heap.size + 1 + 1 + 1 := by omega
      replace rxn : ¬ b1 = w55.heap.size := by omega
      replace HSk := Lib.hid (HSk.out.ext (Ext.trans (by repeat (first | with_reducible exact Ext.refl _ | with_reducible refine Ext.drew ?_ | with_reducible refine Ext.drewN ?_ _ | with_reducible refine Ext.alloc ?_ _ | with_reducible refine Ext.setCell ?_ (by first | omega | (simp; done) | (simp; omega)) _)) hx55))
      replace HWk := Lib.hid (HWk.out.ext (Ext.trans (by repeat (first | with_reducible exact Ext.refl _ | with_reducible refine Ext.drew ?_ | with_reducible refine Ext.drewN ?_ _ | with_reducible refine Ext.alloc ?_ _ | with_reducible refine Ext.setCell ?_ (by first | omega | (simp; done) | (simp; omega)) _)) hx55))
      have X55 : Hid (Ext w w55) := Lib.hid (Ext.trans (by repeat (first | with_reducible exact X54.out | with_reducible refine Ext.drew ?_ | with_reducible refine Ext.drewN ?_ _ | with_reducible refine Ext.alloc ?_ _ | with_reducible refine Ext.setCell ?_ (by first | omega | (simp; done) | (simp; omega)) _)) hx55)
      clear X54 hx55 z55
      refine hK.out _ _ (by (first | exact ⟨x_4, x_5⟩ | (simp [go_sem, World.cell?_alloc_past, x_4, x_5, rx, rxa, rxb, rxc, rxn]; done))) (fun hHeld => ?_); clear hK K; try simp only [Act.put, List.setIfInBounds_toArray, List.set_cons_zero, List.set_cons_succ]
      refine' next_in 12 rfl (by kernel_rfl) (by rfl) (fun K hK => ?_)
      go_simp
      (with_reducible refine (rBit16_any x5 2 p2 _ HP2.out).mono ?_)
      rintro e w56 ⟨rfl, hx56⟩
      replace x_4 : w56.cell? ⟨b1, o1 + k * 6 + 4, none⟩ = some (.bool x4) := hx56.has (by first | exact x_4 | (simp [go_sem, World.cell?_alloc_past, x_4, x_5, rx, rxa, rxb, rxc, rxn]; done))
      replace x_5 : w56.cell? ⟨b1, o1 + k * 6 + 5, none⟩ = some (.bool x5) := hx56.has (by first | exact x_5 | (simp [go_sem, World.cell?_alloc_past, x_4, x_5, rx, rxa, rxb, rxc, rxn]; done))
      have z56 := hx56.size
      try simp at z56
      replace rx : b1 < w56.heap.size := by omega
      replace rxa : b1 < w56.heap.size + 1 := by omega
      replace rxb : b1 < w56.heap.size + 1 + 1 := by omega
      replace rxc : b1 < w56.heap.size + 1 + 1 + 1 := by omega
      replace rxn : ¬ b1 = w56.heap.size := by omega
      replace HSk := Lib.hid (HSk.out.ext (Ext.trans (by repeat (first | with_reducible exact Ext.refl _ | with_reducible refine Ext.drew ?_ | with_reducible refine Ext.drewN ?_ _ | with_reducible refine Ext.alloc ?_ _ | with_reducible refine Ext.setCell ?_ (by first | omega | (simp; done) | (simp; omega)) _)) hx56))
      replace HWk := Lib.hid (HWk.out.ext (Ext.trans (by repeat (first | with_reducible exact Ext.refl _ | with_reducible refine Ext.drew ?_ | with_reducible refine Ext.drewN ?_ _ | with_reducible refine Ext.alloc ?_ _ | with_reducible refine Ext.setCell ?_ (by first | omega | (simp; done) | (simp; omega)) _)) hx56))
      have X56 : Hid (Ext w w56) := Lib.hid (Ext.trans (by repeat (first | with_reducible exact X55.out | with_reducible refine Ext.drew ?_ | with_reducible refine Ext.drewN ?_ _ | with_reducible refine Ext.alloc ?_ _ | with_reducible refine Ext.setCell ?_ (by first | omega | (simp; done) | (simp; omega)) _)) hx56)
      clear X55 hx56 z56
      refine hK.out _ _ (by (first | exact ⟨x_4, x_5⟩ | (simp [go_sem, World.cell?_alloc_past, x_4, x_5, rx, rxa, rxb, rxc, rxn]; done))) (fun hHeld => ?_); clear hK K; try simp only [Act.put, List.setIfInBounds_toArray, List.set_cons_zero, List.set_cons_succ]
      (refine' take_in 13 rfl (by kernel_rfl) (by kernel_rfl) (by kernel_rfl) (fun _ _ _ h => h) (by rfl) (by assumption) ?_ ?_; rotate_left; focus (intro w hSw; (try dsimp only at hSw); go_simp; try with_reducible rfl)); try simp only [Act.put, List.setIfInBounds_toArray, List.set_cons_zero, List.set_cons_succ]
      refine' next_in 14 rfl (by kernel_rfl) (by rfl) (fun K hK => ?_)
      go_simp
      (with_reducible refine (rWN_fit g 1048576 ((((M0 ++ putL x0.toNat) ++ putL x1.toNat) ++ putL x2.toNat) ++ putL x3.toNat) (p1 + p2) (by have := HQ0.out; omega) (by have := HQ0.out; omega) (by have := HQ0.out; (try simp only [List.length_append]); omega) _ (HWk.out.ext (by repeat (first | with_reducible exact Ext.refl _ | with_reducible refine Ext.drew ?_ | with_reducible refine Ext.drewN ?_ _ | with_reducible refine Ext.alloc ?_ _ | with_reducible refine Ext.setCell ?_ (by first | omega | (simp; done) | (simp; omega)) _)))).mono ?_)
      rintro e w57 ⟨rfl, hW, hx57⟩
      have hsz57 := hx57.size
      try simp at hsz57
      replace x_4 : w57.cell? ⟨b1, o1 + k * 6 + 4, none⟩ = some (.bool x4) := hx57.has (by show ¬ g ≤ _; omega) (by first | exact x_4 | (simp [go_sem, World.cell?_alloc_past, x_4, x_5, rx, rxa, rxb, rxc, rxn]; done))
      replace x_5 : w57.cell? ⟨b1, o1 + k * 6 + 5, none⟩ = some (.bool x5) := hx57.has (by show ¬ g ≤ _; omega) (by first | exact x_5 | (simp [go_sem, World.cell?_alloc_past, x_4, x_5, rx, rxa, rxb, rxc, rxn]; done))
      have z57 := hx57.size
      try simp at z57
      replace rx : b1 < w57.heap.size := by omega
      replace rxa : b1 < w57.heap.size + 1 := by omega
      replace rxb : b1 < w57.heap.size + 1 + 1 := by omega
      replace rxc : b1 < w57.heap.size + 1 + 1 + 1 := by omega
      replace rxn : ¬ b1 = w57.heap.size := by omega
      have X57 : Hid (Ext w w57) := Lib.hid (have hX := (show Ext w _ from (by repeat (first | with_reducible exact X56.out | with_reducible refine Ext.drew ?_ | with_reducible refine Ext.drewN ?_ _ | with_reducible refine Ext.alloc ?_ _ | with_reducible refine Ext.setCell ?_ (by first | omega | (simp; done) | (simp; omega)) _))); Below.trans hX (hx57.below (Ext.size hX) (fun k hk hh => by have h2 : g ≤ k := hh; omega)))
      replace HSk := Lib.hid ((HSk.out.ext (by repeat (first | with_reducible exact Ext.refl _ | with_reducible refine Ext.drew ?_ | with_reducible refine Ext.drewN ?_ _ | with_reducible refine Ext.alloc ?_ _ | with_reducible refine Ext.setCell ?_ (by first | omega | (simp; done) | (simp; omega)) _))).but hx57 (fun k hk => by have h2 : g ≤ k := hk; omega))
      clear HWk
      have HWk := Lib.hid hW
      clear hsz57 X56 hx57 z57 hW
      refine hK.out _ _ (by (first | exact ⟨x_4, x_5⟩ | (simp [go_sem, World.cell?_alloc_past, x_4, x_5, rx, rxa, rxb, rxc, rxn]; done))) (fun hHeld => ?_); clear hK K; try simp only [Act.put, List.setIfInBounds_toArray, List.set_cons_zero, List.set_cons_succ]
      refine wpAnyH_done (by kernel_rfl) ?_ _
      go_wp2_with fail
      go_roundg (gk - 1)
      case measure => have := HK.out; omega
      case rel =>
        refine ⟨by have := HK.out; omega, num_eq (by have := HK.out; omega), Lib.hid ?_, Lib.hid (HSk.out.ext (by repeat (first | with_reducible exact Ext.refl _ | with_reducible refine Ext.drew ?_ | with_reducible refine Ext.drewN ?_ _ | with_reducible refine Ext.alloc ?_ _ | with_reducible refine Ext.setCell ?_ (by first | omega | (simp; done) | (simp; omega)) _))), (by repeat (first | with_reducible exact X57.out | with_reducible refine Ext.drew ?_ | with_reducible refine Ext.drewN ?_ _ | with_reducible refine Ext.alloc ?_ _ | with_reducible refine Ext.setCell ?_ (by first | omega | (simp; done) | (simp; omega)) _))⟩
        rw [show l.length - (gk - 1) = k + 1 from by have := HK.out; omega, HNX.out]
        have h := (HWk.out.ext (by repeat (first | with_reducible exact Ext.refl _ | with_reducible refine Ext.drew ?_ | with_reducible refine Ext.drewN ?_ _ | with_reducible refine Ext.alloc ?_ _ | with_reducible refine Ext.setCell ?_ (by first | omega | (simp; done) | (simp; omega)) _)))
        simpa [valB, HBI.out] using h
theorem rBytes16_any (A : Option Addr) (c : Nat) (l : List (Int × Int × Int × Int × Bool × Bool)) (w : World) (hs : Sl w 6 A l.length c (l.flatMap valC)) (hm : ∀ x ∈ l, Fits .u64 x.2.1) : Calls Try.prog 75 #[.slice A l.length c] w (ByErr (rosB l) (chkV l).1 w) := by
  by_cases hc : (chkV l).1 = 0
  · exact rBytes16_ok A c l _ _ w hs hm rfl hc
  · exact rBytes16_chk A c l _ _ w hs hm rfl hc
end Go.Proofs.Ytjdpgapmdmpjjaa
