/- roster: Punished, Punish on both sides; the reference's Jail. Conditions stand in each lemma. -/
import Derived.Test.YtjdpgapmdmpjjaaRos16
set_option linter.unusedVariables false
set_option linter.unusedSimpArgs false
namespace Go.Proofs.Ytjdpgapmdmpjjaa
open Go.RowKit Go.ChangeShapes Go.WideShapes Go.Deep Go.Joins

theorem pndV_zero {l : List (Int × Int × Int × Int × Bool × Bool)} {v cl : Int} (h : pndV l v cl = 0) : (chkV l).1 = 0 ∧ rfsV l v = 0 ∧ (cl = 1 ∨ cl = 2) := by
  unfold pndV at h
  by_cases h0 : (chkV l).1 = 0
  · rw [if_neg (by simpa using h0)] at h
    by_cases h1 : cl ≠ 1 ∧ cl ≠ 2
    · rw [if_pos h1] at h; simp at h
    · rw [if_neg h1] at h
      by_cases h2 : rfsV l v = 0
      · exact ⟨h0, h2, by omega⟩
      · rw [if_pos h2] at h; exact absurd h h2
  · rw [if_pos h0] at h; exact absurd h h0
theorem pndV_at {l : List (Int × Int × Int × Int × Bool × Bool)} {k : Nat} {x : (Int × Int × Int × Int × Bool × Bool)} {cl : Int} (h0 : (chkV l).1 = 0) (h1 : ¬ (cl ≠ 1 ∧ cl ≠ 2)) (h2 : rfsV l (k : Int) = 0) (hx : l[k]? = some x) : pndV l (k : Int) cl = if (cl = 1 ∧ x.2.2.2.2.1 = true) ∨ (cl = 2 ∧ x.2.2.2.2.2 = true) then 19 else 0 := by
  unfold pndV
  rw [if_neg (by simpa using h0), if_neg h1, if_neg (by simpa using h2), show ((k : Int)).toNat = k from by simp, hx]
theorem punV_at {l : List (Int × Int × Int × Int × Bool × Bool)} {k : Nat} {x : (Int × Int × Int × Int × Bool × Bool)} {cl u : Int} (h0 : pndV l (k : Int) cl = 0) (hu : 1 ≤ u ∧ u ≤ 4296015872) (hx : l[k]? = some x) : punV l (k : Int) cl u = (l.set k (punOne x cl u), 0) := by
  unfold punV
  rw [if_neg (by simpa using h0), if_neg (by simpa using hu), show ((k : Int)).toNat = k from by simp, hx]
theorem jailV_at {l : List (Int × Int × Int × Int × Bool × Bool)} {k : Nat} {x : (Int × Int × Int × Int × Bool × Bool)} {u : Int} (h0 : (chkV l).1 = 0) (h1 : rfsV l (k : Int) = 0) (hu : 1 ≤ u ∧ u ≤ 4296015872) (hx : l[k]? = some x) : jailV l (k : Int) u = (l.set k (jailOne x u), 0) := by
  unfold jailV
  rw [if_neg (by simpa using h0), if_neg (by simpa using h1), if_neg (by simpa using hu), show ((k : Int)).toNat = k from by simp, hx]
theorem rUntil16_any (u : Int) (b : Bool) (w : World) (hb : b = decide (1 ≤ u ∧ u ≤ 4296015872)) : Calls Try.prog 108 #[.int .i64 u] w fun e w' => e = .returned (.bool b) ∧ Ext w w' := by
  by_cases h1 : u ≥ 1
  · by_cases h2 : u ≤ 4296015872
    · have e : b = true := by rw [hb]; exact decide_eq_true ⟨h1, h2⟩
      subst e
      clear hb
      go_enter Try.func108, Try.ntmps108
      go_wp2
      go_ret
      exact ⟨rfl, Ext.refl _⟩
    · have e : b = false := by rw [hb]; exact decide_eq_false (fun h => h2 h.2)
      subst e
      clear hb
      go_enter Try.func108, Try.ntmps108
      go_wp2
      go_ret
      exact ⟨rfl, Ext.refl _⟩
  · have e : b = false := by rw [hb]; exact decide_eq_false (fun h => h1 h.1)
    subst e
    clear hb
    go_enter Try.func108, Try.ntmps108
    go_wp2
    go_ret
    exact ⟨rfl, Ext.refl _⟩
theorem rosPunOne_max {x3 u mx : Int} (hm : mx = max x3 u) : ∀ ts t w, (Builtin.max_ ts t #[.int .i64 x3, .int .i64 u]).run Try.prog w = .ok (.int .i64 mx) w := by
  intro ts t w
  rw [run_max_int2, hm]
  congr 2
  split <;> omega
set_option maxRecDepth 100000 in
set_option maxHeartbeats 2000000 in
theorem rosPunished_pre (A : Option Addr) (c : Nat) (l : List (Int × Int × Int × Int × Bool × Bool)) (v : Int) (cl f1 f2 r e : Int) (w : World) (hs : Sl w 6 A l.length c (l.flatMap valC)) (hw : ∀ x ∈ l, (Lit.int .i64 x.1).wf = true) (hf : (f1, f2) = chkV l) (hr : r = rfsV l v) (hF : e = pndV l v cl) (hc : f1 ≠ 0 ∨ (cl ≠ 1 ∧ cl ≠ 2) ∨ r ≠ 0) :
    Calls Try.prog 62 #[.slice A l.length c, .int .i64 v, .int .i64 cl] w fun q w' => q = .returned (.int .i64 e) ∧ Ext w w' := by
  have s1 := hs.small
  have HS := Lib.hid hs
  have Hf := Lib.hid hf
  have Hr := Lib.hid hr
  have HF := Lib.hid hF
  clear hs hf hr hF
  have HW := Lib.hid hw
  clear hw
  go_enter Try.func62, Try.ntmps62
  go_wp2_with fail
  (with_reducible refine (rosCheck_ev A l.length c l f1 f2 _ (HS.out.ext (by repeat (first | with_reducible exact Ext.refl _ | with_reducible refine Ext.drew ?_ | with_reducible refine Ext.drewN ?_ _ | with_reducible refine Ext.alloc ?_ _ | with_reducible refine Ext.setCell ?_ (by first | omega | (simp; done) | (simp; omega)) _))) HW.out Hf.out).mono ?_)
  rintro e w1 ⟨rfl, hx1⟩
  have z1 := hx1.size
  try simp at z1
  replace HS := Lib.hid (HS.out.ext (Ext.trans (by repeat (first | with_reducible exact Ext.refl _ | with_reducible refine Ext.drew ?_ | with_reducible refine Ext.drewN ?_ _ | with_reducible refine Ext.alloc ?_ _ | with_reducible refine Ext.setCell ?_ (by first | omega | (simp; done) | (simp; omega)) _)) hx1))
  have X1 : Hid (Ext w w1) := Lib.hid (Ext.trans (by repeat (first | with_reducible exact Ext.refl w | with_reducible refine Ext.drew ?_ | with_reducible refine Ext.drewN ?_ _ | with_reducible refine Ext.alloc ?_ _ | with_reducible refine Ext.setCell ?_ (by first | omega | (simp; done) | (simp; omega)) _)) hx1)
  clear hx1 z1
  by_cases hc0 : f1 ≠ 0
  · have e_hc0 : (f1 != 0) = true := by simpa using hc0
    have q2 : e = f1 := HF.out.trans (by unfold pndV; rw [← Hf.out]; exact if_pos hc0)
    replace q2 := q2.symm
    subst q2
    go_wp2_with fail
    go_ret
    exact ⟨rfl, (by repeat (first | with_reducible exact X1.out | with_reducible refine Ext.drew ?_ | with_reducible refine Ext.drewN ?_ _ | with_reducible refine Ext.alloc ?_ _ | with_reducible refine Ext.setCell ?_ (by first | omega | (simp; done) | (simp; omega)) _))⟩
  · have e_hc0 : (f1 != 0) = false := by simpa using hc0
    by_cases h1 : cl ≠ 1
    · have e_h1 : (cl != 1) = true := by simpa using h1
      by_cases h2 : cl ≠ 2
      · have e_h2 : (cl != 2) = true := by simpa using h2
        have q2 : e = 2 := HF.out.trans (by unfold pndV; rw [← Hf.out, if_neg (by simpa using hc0), if_pos ⟨h1, h2⟩])
        replace q2 := q2.symm
        subst q2
        go_wp2_with fail
        go_ret
        exact ⟨rfl, (by repeat (first | with_reducible exact X1.out | with_reducible refine Ext.drew ?_ | with_reducible refine Ext.drewN ?_ _ | with_reducible refine Ext.alloc ?_ _ | with_reducible refine Ext.setCell ?_ (by first | omega | (simp; done) | (simp; omega)) _))⟩
      · have e_h2 : (cl != 2) = false := by simpa using h2
        go_wp2_with fail
        have hr0 : r ≠ 0 := by omega
        have e_r : (r != 0) = true := by simpa using hr0
        (with_reducible refine (rosRefuse_ev A l.length c l v r _ (HS.out.ext (by repeat (first | with_reducible exact Ext.refl _ | with_reducible refine Ext.drew ?_ | with_reducible refine Ext.drewN ?_ _ | with_reducible refine Ext.alloc ?_ _ | with_reducible refine Ext.setCell ?_ (by first | omega | (simp; done) | (simp; omega)) _))) Hr.out).mono ?_)
        rintro e w2 ⟨rfl, hx2⟩
        have z2 := hx2.size
        try simp at z2
        replace HS := Lib.hid (HS.out.ext (Ext.trans (by repeat (first | with_reducible exact Ext.refl _ | with_reducible refine Ext.drew ?_ | with_reducible refine Ext.drewN ?_ _ | with_reducible refine Ext.alloc ?_ _ | with_reducible refine Ext.setCell ?_ (by first | omega | (simp; done) | (simp; omega)) _)) hx2))
        have X2 : Hid (Ext w w2) := Lib.hid (Ext.trans (by repeat (first | with_reducible exact X1.out | with_reducible refine Ext.drew ?_ | with_reducible refine Ext.drewN ?_ _ | with_reducible refine Ext.alloc ?_ _ | with_reducible refine Ext.setCell ?_ (by first | omega | (simp; done) | (simp; omega)) _)) hx2)
        clear X1 hx2 z2
        have hr0 : r ≠ 0 := by omega
        have q2 : e = r := HF.out.trans (by unfold pndV; rw [← Hf.out, if_neg (by simpa using hc0), if_neg (by omega), ← Hr.out, if_pos hr0])
        replace q2 := q2.symm
        subst q2
        go_wp2_with fail
        go_ret
        exact ⟨rfl, (by repeat (first | with_reducible exact X2.out | with_reducible refine Ext.drew ?_ | with_reducible refine Ext.drewN ?_ _ | with_reducible refine Ext.alloc ?_ _ | with_reducible refine Ext.setCell ?_ (by first | omega | (simp; done) | (simp; omega)) _))⟩
    · have e_h1 : (cl != 1) = false := by simpa using h1
      go_wp2_with fail
      have hr0 : r ≠ 0 := by omega
      have e_r : (r != 0) = true := by simpa using hr0
      (with_reducible refine (rosRefuse_ev A l.length c l v r _ (HS.out.ext (by repeat (first | with_reducible exact Ext.refl _ | with_reducible refine Ext.drew ?_ | with_reducible refine Ext.drewN ?_ _ | with_reducible refine Ext.alloc ?_ _ | with_reducible refine Ext.setCell ?_ (by first | omega | (simp; done) | (simp; omega)) _))) Hr.out).mono ?_)
      rintro e w2 ⟨rfl, hx2⟩
      have z2 := hx2.size
      try simp at z2
      replace HS := Lib.hid (HS.out.ext (Ext.trans (by repeat (first | with_reducible exact Ext.refl _ | with_reducible refine Ext.drew ?_ | with_reducible refine Ext.drewN ?_ _ | with_reducible refine Ext.alloc ?_ _ | with_reducible refine Ext.setCell ?_ (by first | omega | (simp; done) | (simp; omega)) _)) hx2))
      have X2 : Hid (Ext w w2) := Lib.hid (Ext.trans (by repeat (first | with_reducible exact X1.out | with_reducible refine Ext.drew ?_ | with_reducible refine Ext.drewN ?_ _ | with_reducible refine Ext.alloc ?_ _ | with_reducible refine Ext.setCell ?_ (by first | omega | (simp; done) | (simp; omega)) _)) hx2)
      clear X1 hx2 z2
      have hr0 : r ≠ 0 := by omega
      have q2 : e = r := HF.out.trans (by unfold pndV; rw [← Hf.out, if_neg (by simpa using hc0), if_neg (by omega), ← Hr.out, if_pos hr0])
      replace q2 := q2.symm
      subst q2
      go_wp2_with fail
      go_ret
      exact ⟨rfl, (by repeat (first | with_reducible exact X2.out | with_reducible refine Ext.drew ?_ | with_reducible refine Ext.drewN ?_ _ | with_reducible refine Ext.alloc ?_ _ | with_reducible refine Ext.setCell ?_ (by first | omega | (simp; done) | (simp; omega)) _))⟩
set_option maxRecDepth 100000 in
set_option maxHeartbeats 2000000 in
theorem rosPunished_in (A : Option Addr) (c : Nat) (l : List (Int × Int × Int × Int × Bool × Bool)) (k : Nat) (x0 x1 x2 x3 : Int) (x4 x5 : Bool) (cl f1 f2 r e : Int) (w : World) (hs : Sl w 6 A l.length c (l.flatMap valC)) (hw : ∀ x ∈ l, (Lit.int .i64 x.1).wf = true) (hf : (f1, f2) = chkV l) (hr : r = rfsV l (k : Int)) (hF : e = pndV l (k : Int) cl) (hc : f1 = 0) (hcl : ¬ (cl ≠ 1 ∧ cl ≠ 2)) (hr0 : r = 0) (hk : l[k]? = some (x0, x1, x2, x3, x4, x5)) (h32 : l.length ≤ 32) :
    Calls Try.prog 62 #[.slice A l.length c, .int .i64 (k : Int), .int .i64 cl] w fun q w' => q = .returned (.int .i64 e) ∧ Ext w w' := by
  have s1 := hs.small
  have e7 : (f1 != 0) = false := by simpa using hc
  have e8 : (r != 0) = false := by simpa using hr0
  have hk1 : (k : Int) < l.length := by have := (List.getElem?_eq_some_iff.1 hk).1; omega
  have hV := hF.trans (pndV_at (by rw [← hf]; exact hc) hcl (by rw [← hr]; exact hr0) hk)
  obtain ⟨b1, o1, rfl, hb1, hc1⟩ := hs.rec_ valC_len (show 0 < l.length from by have := (List.getElem?_eq_some_iff.1 hk).1; omega)
  have x_0 := hc1 k _ hk 0 _ rfl
  have x_1 := hc1 k _ hk 1 _ rfl
  have x_2 := hc1 k _ hk 2 _ rfl
  have x_3 := hc1 k _ hk 3 _ rfl
  have x_4 := hc1 k _ hk 4 _ rfl
  have x_5 := hc1 k _ hk 5 _ rfl
  simp only at x_0 x_1 x_2 x_3 x_4 x_5
  rw [Nat.add_zero] at x_0
  rw [← Nat.add_assoc] at x_1 x_2 x_3 x_4 x_5
  clear hc1 hF
  have HS := Lib.hid hs
  have HK := Lib.hid hk
  have Hf := Lib.hid hf
  have Hr := Lib.hid hr
  have HF := Lib.hid hV
  clear hs hk hf hr hV
  have HW := Lib.hid hw
  clear hw
  go_enter Try.func62, Try.ntmps62
  go_wp2_with fail
  (with_reducible refine (rosCheck_ev (some ⟨b1, o1, none⟩) l.length c l f1 f2 _ (HS.out.ext (by repeat (first | with_reducible exact Ext.refl _ | with_reducible refine Ext.drew ?_ | with_reducible refine Ext.drewN ?_ _ | with_reducible refine Ext.alloc ?_ _ | with_reducible refine Ext.setCell ?_ (by first | omega | (simp; done) | (simp; omega)) _))) HW.out Hf.out).mono ?_)
  rintro e w1 ⟨rfl, hx1⟩
  replace x_4 : w1.cell? ⟨b1, o1 + k * 6 + 4, none⟩ = some (.bool x4) := hx1.has (by first | exact x_4 | (simp [go_sem, World.cell?_alloc_past, x_0, x_1, x_2, x_3, x_4, x_5]; done))
  replace x_5 : w1.cell? ⟨b1, o1 + k * 6 + 5, none⟩ = some (.bool x5) := hx1.has (by first | exact x_5 | (simp [go_sem, World.cell?_alloc_past, x_0, x_1, x_2, x_3, x_4, x_5]; done))
  have z1 := hx1.size
  try simp at z1
  have rx : b1 < w1.heap.size := by omega
  have rxa : b1 < w1.heap.size + 1 := by omega
  have rxb : b1 < w1.heap.size + 1 + 1 := by omega
  have rxc : b1 < w1.heap.size + 1 + 1 + 1 := by omega
  have rxn : ¬ b1 = w1.heap.size := by omega
  replace HS := Lib.hid (HS.out.ext (Ext.trans (by repeat (first | with_reducible exact Ext.refl _ | with_reducible refine Ext.drew ?_ | with_reducible refine Ext.drewN ?_ _ | with_reducible refine Ext.alloc ?_ _ | with_reducible refine Ext.setCell ?_ (by first | omega | (simp; done) | (simp; omega)) _)) hx1))
  have X1 : Hid (Ext w w1) := Lib.hid (Ext.trans (by repeat (first | with_reducible exact Ext.refl w | with_reducible refine Ext.drew ?_ | with_reducible refine Ext.drewN ?_ _ | with_reducible refine Ext.alloc ?_ _ | with_reducible refine Ext.setCell ?_ (by first | omega | (simp; done) | (simp; omega)) _)) hx1)
  clear x_2 x_0 x_1 x_3 hx1 z1
  by_cases h1 : cl ≠ 1
  · have e_h1 : (cl != 1) = true := by simpa using h1
    have e_h1b : (cl == 1) = false := by simpa using h1
    have h2 : cl = 2 := by omega
    have e_h2 : (cl != 2) = false := by simpa using h2
    have e_h2b : (cl == 2) = true := by simpa using h2
    go_wp2_with fail
    (with_reducible refine (rosRefuse_ev (some ⟨b1, o1, none⟩) l.length c l (k : Int) r _ (HS.out.ext (by repeat (first | with_reducible exact Ext.refl _ | with_reducible refine Ext.drew ?_ | with_reducible refine Ext.drewN ?_ _ | with_reducible refine Ext.alloc ?_ _ | with_reducible refine Ext.setCell ?_ (by first | omega | (simp; done) | (simp; omega)) _))) Hr.out).mono ?_)
    rintro e w2 ⟨rfl, hx2⟩
    replace x_4 : w2.cell? ⟨b1, o1 + k * 6 + 4, none⟩ = some (.bool x4) := hx2.has (by first | exact x_4 | (simp [go_sem, World.cell?_alloc_past, x_4, x_5, rx, rxa, rxb, rxc, rxn]; done))
    replace x_5 : w2.cell? ⟨b1, o1 + k * 6 + 5, none⟩ = some (.bool x5) := hx2.has (by first | exact x_5 | (simp [go_sem, World.cell?_alloc_past, x_4, x_5, rx, rxa, rxb, rxc, rxn]; done))
    have z2 := hx2.size
    try simp at z2
    replace rx : b1 < w2.heap.size := by omega
    replace rxa : b1 < w2.heap.size + 1 := by omega
    replace rxb : b1 < w2.heap.size + 1 + 1 := by omega
    replace rxc : b1 < w2.heap.size + 1 + 1 + 1 := by omega
    replace rxn : ¬ b1 = w2.heap.size := by omega
    replace HS := Lib.hid (HS.out.ext (Ext.trans (by repeat (first | with_reducible exact Ext.refl _ | with_reducible refine Ext.drew ?_ | with_reducible refine Ext.drewN ?_ _ | with_reducible refine Ext.alloc ?_ _ | with_reducible refine Ext.setCell ?_ (by first | omega | (simp; done) | (simp; omega)) _)) hx2))
    have X2 : Hid (Ext w w2) := Lib.hid (Ext.trans (by repeat (first | with_reducible exact X1.out | with_reducible refine Ext.drew ?_ | with_reducible refine Ext.drewN ?_ _ | with_reducible refine Ext.alloc ?_ _ | with_reducible refine Ext.setCell ?_ (by first | omega | (simp; done) | (simp; omega)) _)) hx2)
    clear X1 hx2 z2
    by_cases h5 : x5 = true
    · subst h5
      have q2 : e = 19 := HF.out.trans (by simp [h2])
      replace q2 := q2.symm
      subst q2
      go_wp2_with fail
      go_ret
      exact ⟨rfl, (by repeat (first | with_reducible exact X2.out | with_reducible refine Ext.drew ?_ | with_reducible refine Ext.drewN ?_ _ | with_reducible refine Ext.alloc ?_ _ | with_reducible refine Ext.setCell ?_ (by first | omega | (simp; done) | (simp; omega)) _))⟩
    · replace h5 : x5 = false := by simpa using h5
      subst h5
      have q2 : e = 0 := HF.out.trans (by simp [h2])
      replace q2 := q2.symm
      subst q2
      go_wp2_with fail
      go_ret
      exact ⟨rfl, (by repeat (first | with_reducible exact X2.out | with_reducible refine Ext.drew ?_ | with_reducible refine Ext.drewN ?_ _ | with_reducible refine Ext.alloc ?_ _ | with_reducible refine Ext.setCell ?_ (by first | omega | (simp; done) | (simp; omega)) _))⟩
  · have h2 : cl = 1 := by omega
    have e_h1 : (cl != 1) = false := by simpa using h2
    have e_h1b : (cl == 1) = true := by simpa using h2
    go_wp2_with fail
    (with_reducible refine (rosRefuse_ev (some ⟨b1, o1, none⟩) l.length c l (k : Int) r _ (HS.out.ext (by repeat (first | with_reducible exact Ext.refl _ | with_reducible refine Ext.drew ?_ | with_reducible refine Ext.drewN ?_ _ | with_reducible refine Ext.alloc ?_ _ | with_reducible refine Ext.setCell ?_ (by first | omega | (simp; done) | (simp; omega)) _))) Hr.out).mono ?_)
    rintro e w2 ⟨rfl, hx2⟩
    replace x_4 : w2.cell? ⟨b1, o1 + k * 6 + 4, none⟩ = some (.bool x4) := hx2.has (by first | exact x_4 | (simp [go_sem, World.cell?_alloc_past, x_4, x_5, rx, rxa, rxb, rxc, rxn]; done))
    replace x_5 : w2.cell? ⟨b1, o1 + k * 6 + 5, none⟩ = some (.bool x5) := hx2.has (by first | exact x_5 | (simp [go_sem, World.cell?_alloc_past, x_4, x_5, rx, rxa, rxb, rxc, rxn]; done))
    have z2 := hx2.size
    try simp at z2
    replace rx : b1 < w2.heap.size := by omega
    replace rxa : b1 < w2.heap.size + 1 := by omega
    replace rxb : b1 < w2.heap.size + 1 + 1 := by omega
    replace rxc : b1 < w2.heap.size + 1 + 1 + 1 := by omega
    replace rxn : ¬ b1 = w2.heap.size := by omega
    replace HS := Lib.hid (HS.out.ext (Ext.trans (by repeat (first | with_reducible exact Ext.refl _ | with_reducible refine Ext.drew ?_ | with_reducible refine Ext.drewN ?_ _ | with_reducible refine Ext.alloc ?_ _ | with_reducible refine Ext.setCell ?_ (by first | omega | (simp; done) | (simp; omega)) _)) hx2))
    have X2 : Hid (Ext w w2) := Lib.hid (Ext.trans (by repeat (first | with_reducible exact X1.out | with_reducible refine Ext.drew ?_ | with_reducible refine Ext.drewN ?_ _ | with_reducible refine Ext.alloc ?_ _ | with_reducible refine Ext.setCell ?_ (by first | omega | (simp; done) | (simp; omega)) _)) hx2)
    clear X1 hx2 z2
    by_cases h4 : x4 = true
    · subst h4
      by_cases h5 : x5 = true
      · subst h5
        have q2 : e = 19 := HF.out.trans (by simp [h2])
        replace q2 := q2.symm
        subst q2
        go_wp2_with fail
        go_ret
        exact ⟨rfl, (by repeat (first | with_reducible exact X2.out | with_reducible refine Ext.drew ?_ | with_reducible refine Ext.drewN ?_ _ | with_reducible refine Ext.alloc ?_ _ | with_reducible refine Ext.setCell ?_ (by first | omega | (simp; done) | (simp; omega)) _))⟩
      · replace h5 : x5 = false := by simpa using h5
        subst h5
        have q2 : e = 19 := HF.out.trans (by simp [h2])
        replace q2 := q2.symm
        subst q2
        go_wp2_with fail
        go_ret
        exact ⟨rfl, (by repeat (first | with_reducible exact X2.out | with_reducible refine Ext.drew ?_ | with_reducible refine Ext.drewN ?_ _ | with_reducible refine Ext.alloc ?_ _ | with_reducible refine Ext.setCell ?_ (by first | omega | (simp; done) | (simp; omega)) _))⟩
    · replace h4 : x4 = false := by simpa using h4
      subst h4
      have e_h2b : (cl == 2) = false := by simp [h2]
      by_cases h5 : x5 = true
      · subst h5
        have q2 : e = 0 := HF.out.trans (by simp [h2])
        replace q2 := q2.symm
        subst q2
        go_wp2_with fail
        go_ret
        exact ⟨rfl, (by repeat (first | with_reducible exact X2.out | with_reducible refine Ext.drew ?_ | with_reducible refine Ext.drewN ?_ _ | with_reducible refine Ext.alloc ?_ _ | with_reducible refine Ext.setCell ?_ (by first | omega | (simp; done) | (simp; omega)) _))⟩
      · replace h5 : x5 = false := by simpa using h5
        subst h5
        have q2 : e = 0 := HF.out.trans (by simp [h2])
        replace q2 := q2.symm
        subst q2
        go_wp2_with fail
        go_ret
        exact ⟨rfl, (by repeat (first | with_reducible exact X2.out | with_reducible refine Ext.drew ?_ | with_reducible refine Ext.drewN ?_ _ | with_reducible refine Ext.alloc ?_ _ | with_reducible refine Ext.setCell ?_ (by first | omega | (simp; done) | (simp; omega)) _))⟩
theorem rosPunished_ev (A : Option Addr) (c : Nat) (l : List (Int × Int × Int × Int × Bool × Bool)) (v cl e : Int) (w : World) (hs : Sl w 6 A l.length c (l.flatMap valC)) (hw : ∀ x ∈ l, (Lit.int .i64 x.1).wf = true) (hF : e = pndV l v cl) :
    Calls Try.prog 62 #[.slice A l.length c, .int .i64 v, .int .i64 cl] w fun q w' => q = .returned (.int .i64 e) ∧ Ext w w' := by
  obtain ⟨⟨f1, f2⟩, hf⟩ : ∃ F, F = chkV l := ⟨_, rfl⟩
  obtain ⟨r, hr⟩ : ∃ r, r = rfsV l v := ⟨_, rfl⟩
  by_cases hc : f1 ≠ 0 ∨ (cl ≠ 1 ∧ cl ≠ 2) ∨ r ≠ 0
  · exact rosPunished_pre A c l v cl f1 f2 r e w hs hw hf hr hF hc
  · obtain ⟨k, rfl, hk⟩ := rfs_in (l := l) (v := v) (by rw [← hr]; omega)
    obtain ⟨⟨x0, x1, x2, x3, x4, x5⟩, hx⟩ : ∃ x, x = l[k] := ⟨_, rfl⟩
    exact rosPunished_in A c l k x0 x1 x2 x3 x4 x5 cl f1 f2 r e w hs hw hf hr hF (by omega) (by omega) (by omega) (by rw [hx]; exact List.getElem?_eq_getElem hk) (chkV_zero (by rw [← hf]; show f1 = 0; omega)).2.1
set_option maxRecDepth 100000 in
set_option maxHeartbeats 2000000 in
theorem rPunished16_pre (A : Option Addr) (c : Nat) (l : List (Int × Int × Int × Int × Bool × Bool)) (v : Int) (cl f1 f2 r e : Int) (w : World) (hs : Sl w 6 A l.length c (l.flatMap valC)) (hf : (f1, f2) = chkV l) (hr : r = rfsV l v) (hF : e = pndV l v cl) (hc : f1 ≠ 0 ∨ (cl ≠ 1 ∧ cl ≠ 2) ∨ r ≠ 0) :
    Calls Try.prog 63 #[.slice A l.length c, .int .i64 v, .int .i64 cl] w fun q w' => q = .returned (.int .i64 e) ∧ Ext w w' := by
  have s1 := hs.small
  have HS := Lib.hid hs
  have Hf := Lib.hid hf
  have Hr := Lib.hid hr
  have HF := Lib.hid hF
  clear hs hf hr hF
  go_enter Try.func63, Try.ntmps63
  go_wp2_with fail
  (with_reducible refine (rCheck16_ev A l.length c l f1 f2 _ (HS.out.ext (by repeat (first | with_reducible exact Ext.refl _ | with_reducible refine Ext.drew ?_ | with_reducible refine Ext.drewN ?_ _ | with_reducible refine Ext.alloc ?_ _ | with_reducible refine Ext.setCell ?_ (by first | omega | (simp; done) | (simp; omega)) _))) Hf.out).mono ?_)
  rintro e w1 ⟨rfl, hx1⟩
  have z1 := hx1.size
  try simp at z1
  replace HS := Lib.hid (HS.out.ext (Ext.trans (by repeat (first | with_reducible exact Ext.refl _ | with_reducible refine Ext.drew ?_ | with_reducible refine Ext.drewN ?_ _ | with_reducible refine Ext.alloc ?_ _ | with_reducible refine Ext.setCell ?_ (by first | omega | (simp; done) | (simp; omega)) _)) hx1))
  have X1 : Hid (Ext w w1) := Lib.hid (Ext.trans (by repeat (first | with_reducible exact Ext.refl w | with_reducible refine Ext.drew ?_ | with_reducible refine Ext.drewN ?_ _ | with_reducible refine Ext.alloc ?_ _ | with_reducible refine Ext.setCell ?_ (by first | omega | (simp; done) | (simp; omega)) _)) hx1)
  clear hx1 z1
  by_cases hc0 : f1 ≠ 0
  · have e_hc0 : (f1 != 0) = true := by simpa using hc0
    have q2 : e = f1 := HF.out.trans (by unfold pndV; rw [← Hf.out]; exact if_pos hc0)
    replace q2 := q2.symm
    subst q2
    go_wp2_with fail
    go_ret
    exact ⟨rfl, (by repeat (first | with_reducible exact X1.out | with_reducible refine Ext.drew ?_ | with_reducible refine Ext.drewN ?_ _ | with_reducible refine Ext.alloc ?_ _ | with_reducible refine Ext.setCell ?_ (by first | omega | (simp; done) | (simp; omega)) _))⟩
  · have e_hc0 : (f1 != 0) = false := by simpa using hc0
    by_cases h1 : cl ≠ 1
    · have e_h1 : (cl != 1) = true := by simpa using h1
      by_cases h2 : cl ≠ 2
      · have e_h2 : (cl != 2) = true := by simpa using h2
        have q2 : e = 2 := HF.out.trans (by unfold pndV; rw [← Hf.out, if_neg (by simpa using hc0), if_pos ⟨h1, h2⟩])
        replace q2 := q2.symm
        subst q2
        go_wp2_with fail
        go_ret
        exact ⟨rfl, (by repeat (first | with_reducible exact X1.out | with_reducible refine Ext.drew ?_ | with_reducible refine Ext.drewN ?_ _ | with_reducible refine Ext.alloc ?_ _ | with_reducible refine Ext.setCell ?_ (by first | omega | (simp; done) | (simp; omega)) _))⟩
      · have e_h2 : (cl != 2) = false := by simpa using h2
        go_wp2_with fail
        have hr0 : r ≠ 0 := by omega
        have e_r : (r != 0) = true := by simpa using hr0
        (with_reducible refine (rRefuse16_e A l.length c l v r _ (HS.out.ext (by repeat (first | with_reducible exact Ext.refl _ | with_reducible refine Ext.drew ?_ | with_reducible refine Ext.drewN ?_ _ | with_reducible refine Ext.alloc ?_ _ | with_reducible refine Ext.setCell ?_ (by first | omega | (simp; done) | (simp; omega)) _))) Hr.out).mono ?_)
        rintro e w2 ⟨rfl, hx2⟩
        have z2 := hx2.size
        try simp at z2
        replace HS := Lib.hid (HS.out.ext (Ext.trans (by repeat (first | with_reducible exact Ext.refl _ | with_reducible refine Ext.drew ?_ | with_reducible refine Ext.drewN ?_ _ | with_reducible refine Ext.alloc ?_ _ | with_reducible refine Ext.setCell ?_ (by first | omega | (simp; done) | (simp; omega)) _)) hx2))
        have X2 : Hid (Ext w w2) := Lib.hid (Ext.trans (by repeat (first | with_reducible exact X1.out | with_reducible refine Ext.drew ?_ | with_reducible refine Ext.drewN ?_ _ | with_reducible refine Ext.alloc ?_ _ | with_reducible refine Ext.setCell ?_ (by first | omega | (simp; done) | (simp; omega)) _)) hx2)
        clear X1 hx2 z2
        have hr0 : r ≠ 0 := by omega
        have q2 : e = r := HF.out.trans (by unfold pndV; rw [← Hf.out, if_neg (by simpa using hc0), if_neg (by omega), ← Hr.out, if_pos hr0])
        replace q2 := q2.symm
        subst q2
        go_wp2_with fail
        go_ret
        exact ⟨rfl, (by repeat (first | with_reducible exact X2.out | with_reducible refine Ext.drew ?_ | with_reducible refine Ext.drewN ?_ _ | with_reducible refine Ext.alloc ?_ _ | with_reducible refine Ext.setCell ?_ (by first | omega | (simp; done) | (simp; omega)) _))⟩
    · have e_h1 : (cl != 1) = false := by simpa using h1
      go_wp2_with fail
      have hr0 : r ≠ 0 := by omega
      have e_r : (r != 0) = true := by simpa using hr0
      (with_reducible refine (rRefuse16_e A l.length c l v r _ (HS.out.ext (by repeat (first | with_reducible exact Ext.refl _ | with_reducible refine Ext.drew ?_ | with_reducible refine Ext.drewN ?_ _ | with_reducible refine Ext.alloc ?_ _ | with_reducible refine Ext.setCell ?_ (by first | omega | (simp; done) | (simp; omega)) _))) Hr.out).mono ?_)
      rintro e w2 ⟨rfl, hx2⟩
      have z2 := hx2.size
      try simp at z2
      replace HS := Lib.hid (HS.out.ext (Ext.trans (by repeat (first | with_reducible exact Ext.refl _ | with_reducible refine Ext.drew ?_ | with_reducible refine Ext.drewN ?_ _ | with_reducible refine Ext.alloc ?_ _ | with_reducible refine Ext.setCell ?_ (by first | omega | (simp; done) | (simp; omega)) _)) hx2))
      have X2 : Hid (Ext w w2) := Lib.hid (Ext.trans (by repeat (first | with_reducible exact X1.out | with_reducible refine Ext.drew ?_ | with_reducible refine Ext.drewN ?_ _ | with_reducible refine Ext.alloc ?_ _ | with_reducible refine Ext.setCell ?_ (by first | omega | (simp; done) | (simp; omega)) _)) hx2)
      clear X1 hx2 z2
      have hr0 : r ≠ 0 := by omega
      have q2 : e = r := HF.out.trans (by unfold pndV; rw [← Hf.out, if_neg (by simpa using hc0), if_neg (by omega), ← Hr.out, if_pos hr0])
      replace q2 := q2.symm
      subst q2
      go_wp2_with fail
      go_ret
      exact ⟨rfl, (by repeat (first | with_reducible exact X2.out | with_reducible refine Ext.drew ?_ | with_reducible refine Ext.drewN ?_ _ | with_reducible refine Ext.alloc ?_ _ | with_reducible refine Ext.setCell ?_ (by first | omega | (simp; done) | (simp; omega)) _))⟩
set_option maxRecDepth 100000 in
set_option maxHeartbeats 2000000 in
theorem rPunished16_in (A : Option Addr) (c : Nat) (l : List (Int × Int × Int × Int × Bool × Bool)) (k : Nat) (x0 x1 x2 x3 : Int) (x4 x5 : Bool) (cl f1 f2 r e : Int) (w : World) (hs : Sl w 6 A l.length c (l.flatMap valC)) (hf : (f1, f2) = chkV l) (hr : r = rfsV l (k : Int)) (hF : e = pndV l (k : Int) cl) (hc : f1 = 0) (hcl : ¬ (cl ≠ 1 ∧ cl ≠ 2)) (hr0 : r = 0) (hk : l[k]? = some (x0, x1, x2, x3, x4, x5)) (h32 : l.length ≤ 32) :
    Calls Try.prog 63 #[.slice A l.length c, .int .i64 (k : Int), .int .i64 cl] w fun q w' => q = .returned (.int .i64 e) ∧ Ext w w' := by
  have s1 := hs.small
  have e7 : (f1 != 0) = false := by simpa using hc
  have e8 : (r != 0) = false := by simpa using hr0
  have hk1 : (k : Int) < l.length := by have := (List.getElem?_eq_some_iff.1 hk).1; omega
  have hV := hF.trans (pndV_at (by rw [← hf]; exact hc) hcl (by rw [← hr]; exact hr0) hk)
  obtain ⟨b1, o1, rfl, hb1, hc1⟩ := hs.rec_ valC_len (show 0 < l.length from by have := (List.getElem?_eq_some_iff.1 hk).1; omega)
  have x_0 := hc1 k _ hk 0 _ rfl
  have x_1 := hc1 k _ hk 1 _ rfl
  have x_2 := hc1 k _ hk 2 _ rfl
  have x_3 := hc1 k _ hk 3 _ rfl
  have x_4 := hc1 k _ hk 4 _ rfl
  have x_5 := hc1 k _ hk 5 _ rfl
  simp only at x_0 x_1 x_2 x_3 x_4 x_5
  rw [Nat.add_zero] at x_0
  rw [← Nat.add_assoc] at x_1 x_2 x_3 x_4 x_5
  clear hc1 hF
  have HS := Lib.hid hs
  have HK := Lib.hid hk
  have Hf := Lib.hid hf
  have Hr := Lib.hid hr
  have HF := Lib.hid hV
  clear hs hk hf hr hV
  go_enter Try.func63, Try.ntmps63
  go_wp2_with fail
  (with_reducible refine (rCheck16_ev (some ⟨b1, o1, none⟩) l.length c l f1 f2 _ (HS.out.ext (by repeat (first | with_reducible exact Ext.refl _ | with_reducible refine Ext.drew ?_ | with_reducible refine Ext.drewN ?_ _ | with_reducible refine Ext.alloc ?_ _ | with_reducible refine Ext.setCell ?_ (by first | omega | (simp; done) | (simp; omega)) _))) Hf.out).mono ?_)
  rintro e w1 ⟨rfl, hx1⟩
  replace x_4 : w1.cell? ⟨b1, o1 + k * 6 + 4, none⟩ = some (.bool x4) := hx1.has (by first | exact x_4 | (simp [go_sem, World.cell?_alloc_past, x_0, x_1, x_2, x_3, x_4, x_5]; done))
  replace x_5 : w1.cell? ⟨b1, o1 + k * 6 + 5, none⟩ = some (.bool x5) := hx1.has (by first | exact x_5 | (simp [go_sem, World.cell?_alloc_past, x_0, x_1, x_2, x_3, x_4, x_5]; done))
  have z1 := hx1.size
  try simp at z1
  have rx : b1 < w1.heap.size := by omega
  have rxa : b1 < w1.heap.size + 1 := by omega
  have rxb : b1 < w1.heap.size + 1 + 1 := by omega
  have rxc : b1 < w1.heap.size + 1 + 1 + 1 := by omega
  have rxn : ¬ b1 = w1.heap.size := by omega
  replace HS := Lib.hid (HS.out.ext (Ext.trans (by repeat (first | with_reducible exact Ext.refl _ | with_reducible refine Ext.drew ?_ | with_reducible refine Ext.drewN ?_ _ | with_reducible refine Ext.alloc ?_ _ | with_reducible refine Ext.setCell ?_ (by first | omega | (simp; done) | (simp; omega)) _)) hx1))
  have X1 : Hid (Ext w w1) := Lib.hid (Ext.trans (by repeat (first | with_reducible exact Ext.refl w | with_reducible refine Ext.drew ?_ | with_reducible refine Ext.drewN ?_ _ | with_reducible refine Ext.alloc ?_ _ | with_reducible refine Ext.setCell ?_ (by first | omega | (simp; done) | (simp; omega)) _)) hx1)
  clear x_2 x_0 x_1 x_3 hx1 z1
  by_cases h1 : cl ≠ 1
  · have e_h1 : (cl != 1) = true := by simpa using h1
    have e_h1b : (cl == 1) = false := by simpa using h1
    have h2 : cl = 2 := by omega
    have e_h2 : (cl != 2) = false := by simpa using h2
    have e_h2b : (cl == 2) = true := by simpa using h2
    go_wp2_with fail
    (with_reducible refine (rRefuse16_e (some ⟨b1, o1, none⟩) l.length c l (k : Int) r _ (HS.out.ext (by repeat (first | with_reducible exact Ext.refl _ | with_reducible refine Ext.drew ?_ | with_reducible refine Ext.drewN ?_ _ | with_reducible refine Ext.alloc ?_ _ | with_reducible refine Ext.setCell ?_ (by first | omega | (simp; done) | (simp; omega)) _))) Hr.out).mono ?_)
    rintro e w2 ⟨rfl, hx2⟩
    replace x_4 : w2.cell? ⟨b1, o1 + k * 6 + 4, none⟩ = some (.bool x4) := hx2.has (by first | exact x_4 | (simp [go_sem, World.cell?_alloc_past, x_4, x_5, rx, rxa, rxb, rxc, rxn]; done))
    replace x_5 : w2.cell? ⟨b1, o1 + k * 6 + 5, none⟩ = some (.bool x5) := hx2.has (by first | exact x_5 | (simp [go_sem, World.cell?_alloc_past, x_4, x_5, rx, rxa, rxb, rxc, rxn]; done))
    have z2 := hx2.size
    try simp at z2
    replace rx : b1 < w2.heap.size := by omega
    replace rxa : b1 < w2.heap.size + 1 := by omega
    replace rxb : b1 < w2.heap.size + 1 + 1 := by omega
    replace rxc : b1 < w2.heap.size + 1 + 1 + 1 := by omega
    replace rxn : ¬ b1 = w2.heap.size := by omega
    replace HS := Lib.hid (HS.out.ext (Ext.trans (by repeat (first | with_reducible exact Ext.refl _ | with_reducible refine Ext.drew ?_ | with_reducible refine Ext.drewN ?_ _ | with_reducible refine Ext.alloc ?_ _ | with_reducible refine Ext.setCell ?_ (by first | omega | (simp; done) | (simp; omega)) _)) hx2))
    have X2 : Hid (Ext w w2) := Lib.hid (Ext.trans (by repeat (first | with_reducible exact X1.out | with_reducible refine Ext.drew ?_ | with_reducible refine Ext.drewN ?_ _ | with_reducible refine Ext.alloc ?_ _ | with_reducible refine Ext.setCell ?_ (by first | omega | (simp; done) | (simp; omega)) _)) hx2)
    clear X1 hx2 z2
    by_cases h5 : x5 = true
    · subst h5
      have q2 : e = 19 := HF.out.trans (by simp [h2])
      replace q2 := q2.symm
      subst q2
      go_wp2_with fail
      go_ret
      exact ⟨rfl, (by repeat (first | with_reducible exact X2.out | with_reducible refine Ext.drew ?_ | with_reducible refine Ext.drewN ?_ _ | with_reducible refine Ext.alloc ?_ _ | with_reducible refine Ext.setCell ?_ (by first | omega | (simp; done) | (simp; omega)) _))⟩
    · replace h5 : x5 = false := by simpa using h5
      subst h5
      have q2 : e = 0 := HF.out.trans (by simp [h2])
      replace q2 := q2.symm
      subst q2
      go_wp2_with fail
      go_ret
      exact ⟨rfl, (by repeat (first | with_reducible exact X2.out | with_reducible refine Ext.drew ?_ | with_reducible refine Ext.drewN ?_ _ | with_reducible refine Ext.alloc ?_ _ | with_reducible refine Ext.setCell ?_ (by first | omega | (simp; done) | (simp; omega)) _))⟩
  · have h2 : cl = 1 := by omega
    have e_h1 : (cl != 1) = false := by simpa using h2
    have e_h1b : (cl == 1) = true := by simpa using h2
    go_wp2_with fail
    (with_reducible refine (rRefuse16_e (some ⟨b1, o1, none⟩) l.length c l (k : Int) r _ (HS.out.ext (by repeat (first | with_reducible exact Ext.refl _ | with_reducible refine Ext.drew ?_ | with_reducible refine Ext.drewN ?_ _ | with_reducible refine Ext.alloc ?_ _ | with_reducible refine Ext.setCell ?_ (by first | omega | (simp; done) | (simp; omega)) _))) Hr.out).mono ?_)
    rintro e w2 ⟨rfl, hx2⟩
    replace x_4 : w2.cell? ⟨b1, o1 + k * 6 + 4, none⟩ = some (.bool x4) := hx2.has (by first | exact x_4 | (simp [go_sem, World.cell?_alloc_past, x_4, x_5, rx, rxa, rxb, rxc, rxn]; done))
    replace x_5 : w2.cell? ⟨b1, o1 + k * 6 + 5, none⟩ = some (.bool x5) := hx2.has (by first | exact x_5 | (simp [go_sem, World.cell?_alloc_past, x_4, x_5, rx, rxa, rxb, rxc, rxn]; done))
    have z2 := hx2.size
    try simp at z2
    replace rx : b1 < w2.heap.size := by omega
    replace rxa : b1 < w2.heap.size + 1 := by omega
    replace rxb : b1 < w2.heap.size + 1 + 1 := by omega
    replace rxc : b1 < w2.heap.size + 1 + 1 + 1 := by omega
    replace rxn : ¬ b1 = w2.heap.size := by omega
    replace HS := Lib.hid (HS.out.ext (Ext.trans (by repeat (first | with_reducible exact Ext.refl _ | with_reducible refine Ext.drew ?_ | with_reducible refine Ext.drewN ?_ _ | with_reducible refine Ext.alloc ?_ _ | with_reducible refine Ext.setCell ?_ (by first | omega | (simp; done) | (simp; omega)) _)) hx2))
    have X2 : Hid (Ext w w2) := Lib.hid (Ext.trans (by repeat (first | with_reducible exact X1.out | with_reducible refine Ext.drew ?_ | with_reducible refine Ext.drewN ?_ _ | with_reducible refine Ext.alloc ?_ _ | with_reducible refine Ext.setCell ?_ (by first | omega | (simp; done) | (simp; omega)) _)) hx2)
    clear X1 hx2 z2
    by_cases h4 : x4 = true
    · subst h4
      by_cases h5 : x5 = true
      · subst h5
        have q2 : e = 19 := HF.out.trans (by simp [h2])
        replace q2 := q2.symm
        subst q2
        go_wp2_with fail
        go_ret
        exact ⟨rfl, (by repeat (first | with_reducible exact X2.out | with_reducible refine Ext.drew ?_ | with_reducible refine Ext.drewN ?_ _ | with_reducible refine Ext.alloc ?_ _ | with_reducible refine Ext.setCell ?_ (by first | omega | (simp; done) | (simp; omega)) _))⟩
      · replace h5 : x5 = false := by simpa using h5
        subst h5
        have q2 : e = 19 := HF.out.trans (by simp [h2])
        replace q2 := q2.symm
        subst q2
        go_wp2_with fail
        go_ret
        exact ⟨rfl, (by repeat (first | with_reducible exact X2.out | with_reducible refine Ext.drew ?_ | with_reducible refine Ext.drewN ?_ _ | with_reducible refine Ext.alloc ?_ _ | with_reducible refine Ext.setCell ?_ (by first | omega | (simp; done) | (simp; omega)) _))⟩
    · replace h4 : x4 = false := by simpa using h4
      subst h4
      have e_h2b : (cl == 2) = false := by simp [h2]
      by_cases h5 : x5 = true
      · subst h5
        have q2 : e = 0 := HF.out.trans (by simp [h2])
        replace q2 := q2.symm
        subst q2
        go_wp2_with fail
        go_ret
        exact ⟨rfl, (by repeat (first | with_reducible exact X2.out | with_reducible refine Ext.drew ?_ | with_reducible refine Ext.drewN ?_ _ | with_reducible refine Ext.alloc ?_ _ | with_reducible refine Ext.setCell ?_ (by first | omega | (simp; done) | (simp; omega)) _))⟩
      · replace h5 : x5 = false := by simpa using h5
        subst h5
        have q2 : e = 0 := HF.out.trans (by simp [h2])
        replace q2 := q2.symm
        subst q2
        go_wp2_with fail
        go_ret
        exact ⟨rfl, (by repeat (first | with_reducible exact X2.out | with_reducible refine Ext.drew ?_ | with_reducible refine Ext.drewN ?_ _ | with_reducible refine Ext.alloc ?_ _ | with_reducible refine Ext.setCell ?_ (by first | omega | (simp; done) | (simp; omega)) _))⟩
theorem rPunished16_ev (A : Option Addr) (c : Nat) (l : List (Int × Int × Int × Int × Bool × Bool)) (v cl e : Int) (w : World) (hs : Sl w 6 A l.length c (l.flatMap valC)) (hF : e = pndV l v cl) :
    Calls Try.prog 63 #[.slice A l.length c, .int .i64 v, .int .i64 cl] w fun q w' => q = .returned (.int .i64 e) ∧ Ext w w' := by
  obtain ⟨⟨f1, f2⟩, hf⟩ : ∃ F, F = chkV l := ⟨_, rfl⟩
  obtain ⟨r, hr⟩ : ∃ r, r = rfsV l v := ⟨_, rfl⟩
  by_cases hc : f1 ≠ 0 ∨ (cl ≠ 1 ∧ cl ≠ 2) ∨ r ≠ 0
  · exact rPunished16_pre A c l v cl f1 f2 r e w hs hf hr hF hc
  · obtain ⟨k, rfl, hk⟩ := rfs_in (l := l) (v := v) (by rw [← hr]; omega)
    obtain ⟨⟨x0, x1, x2, x3, x4, x5⟩, hx⟩ : ∃ x, x = l[k] := ⟨_, rfl⟩
    exact rPunished16_in A c l k x0 x1 x2 x3 x4 x5 cl f1 f2 r e w hs hf hr hF (by omega) (by omega) (by omega) (by rw [hx]; exact List.getElem?_eq_getElem hk) (chkV_zero (by rw [← hf]; show f1 = 0; omega)).2.1
set_option maxRecDepth 100000 in
set_option maxHeartbeats 2000000 in
theorem rosPunish_pnd (A : Option Addr) (c : Nat) (l L : List (Int × Int × Int × Int × Bool × Bool)) (v : Int) (cl u p e : Int) (w : World) (hs : Sl w 6 A l.length c (l.flatMap valC)) (hw : ∀ x ∈ l, (Lit.int .i64 x.1).wf = true) (hnil : A = none → c = 0) (hp : p = pndV l v cl) (hF : (L, e) = punV l v cl u) (hc : p ≠ 0) :
    Calls Try.prog 60 #[.slice A l.length c, .int .i64 v, .int .i64 cl, .int .i64 u] w (RetV L [.int .i64 e] w) := by
  have s1 := hs.small
  have e7 : (p != 0) = true := by simpa using hc
  have HS := Lib.hid hs
  have Hp := Lib.hid hp
  have HF := Lib.hid hF
  clear hs hp hF
  have HW := Lib.hid hw
  clear hw
  go_enter Try.func60, Try.ntmps60
  go_wp2_with fail
  (with_reducible refine (rosPunished_ev A c l v cl p _ (HS.out.ext (by repeat (first | with_reducible exact Ext.refl _ | with_reducible refine Ext.drew ?_ | with_reducible refine Ext.drewN ?_ _ | with_reducible refine Ext.alloc ?_ _ | with_reducible refine Ext.setCell ?_ (by first | omega | (simp; done) | (simp; omega)) _))) HW.out Hp.out).mono ?_)
  rintro e w1 ⟨rfl, hx1⟩
  have z1 := hx1.size
  try simp at z1
  replace HS := Lib.hid (HS.out.ext (Ext.trans (by repeat (first | with_reducible exact Ext.refl _ | with_reducible refine Ext.drew ?_ | with_reducible refine Ext.drewN ?_ _ | with_reducible refine Ext.alloc ?_ _ | with_reducible refine Ext.setCell ?_ (by first | omega | (simp; done) | (simp; omega)) _)) hx1))
  have X1 : Hid (Ext w w1) := Lib.hid (Ext.trans (by repeat (first | with_reducible exact Ext.refl w | with_reducible refine Ext.drew ?_ | with_reducible refine Ext.drewN ?_ _ | with_reducible refine Ext.alloc ?_ _ | with_reducible refine Ext.setCell ?_ (by first | omega | (simp; done) | (simp; omega)) _)) hx1)
  clear hx1 z1
  obtain ⟨q1, q2⟩ := Prod.mk.inj (HF.out.trans (show _ = (([] : List (Int × Int × Int × Int × Bool × Bool)), (p : Int)) from by unfold punV; rw [← Hp.out, if_pos hc]))
  replace q2 := q2.symm
  subst q1
  subst q2
  go_wp2_with fail
  refine bodyPost_ret (v := .tuple #[.slice none 0 0, .int .i64 p]) (by simp [results, Try.results60, go_sem, World.cell?_alloc_past]; try rfl) rfl (RetV.nil (xs := [.int .i64 p]) ?_)
  exact (by repeat (first | with_reducible exact X1.out | with_reducible refine Ext.drew ?_ | with_reducible refine Ext.drewN ?_ _ | with_reducible refine Ext.alloc ?_ _ | with_reducible refine Ext.setCell ?_ (by first | omega | (simp; done) | (simp; omega)) _))
set_option maxRecDepth 100000 in
set_option maxHeartbeats 2000000 in
theorem rosPunish_unt (A : Option Addr) (c : Nat) (l L : List (Int × Int × Int × Int × Bool × Bool)) (v : Int) (cl u p e : Int) (w : World) (hs : Sl w 6 A l.length c (l.flatMap valC)) (hw : ∀ x ∈ l, (Lit.int .i64 x.1).wf = true) (hnil : A = none → c = 0) (hp : p = pndV l v cl) (hF : (L, e) = punV l v cl u) (hc : p = 0) (hu : ¬ (1 ≤ u ∧ u ≤ 4296015872)) :
    Calls Try.prog 60 #[.slice A l.length c, .int .i64 v, .int .i64 cl, .int .i64 u] w (RetV L [.int .i64 e] w) := by
  have s1 := hs.small
  have e7 : (p != 0) = false := by simpa using hc
  have HU : Hid (false = decide (1 ≤ u ∧ u ≤ 4296015872)) := Lib.hid (decide_eq_false hu).symm
  have HUU := Lib.hid hu
  clear hu
  have HS := Lib.hid hs
  have Hp := Lib.hid hp
  have HF := Lib.hid hF
  clear hs hp hF
  have HW := Lib.hid hw
  clear hw
  go_enter Try.func60, Try.ntmps60
  go_wp2_with fail
  (with_reducible refine (rosPunished_ev A c l v cl p _ (HS.out.ext (by repeat (first | with_reducible exact Ext.refl _ | with_reducible refine Ext.drew ?_ | with_reducible refine Ext.drewN ?_ _ | with_reducible refine Ext.alloc ?_ _ | with_reducible refine Ext.setCell ?_ (by first | omega | (simp; done) | (simp; omega)) _))) HW.out Hp.out).mono ?_)
  rintro e w1 ⟨rfl, hx1⟩
  have c1_0 : w1.cell? ⟨w.heap.size + 1, 0, none⟩ = some (.int .i64 u) := hx1.has (by first | fail | (simp [go_sem, World.cell?_alloc_past]; done))
  have z1 := hx1.size
  try simp at z1
  have rc1 : w.heap.size + 1 < w1.heap.size := by omega
  have rc1a : w.heap.size + 1 < w1.heap.size + 1 := by omega
  have rc1b : w.heap.size + 1 < w1.heap.size + 1 + 1 := by omega
  have rc1c : w.heap.size + 1 < w1.heap.size + 1 + 1 + 1 := by omega
  have rc1n : ¬ w.heap.size + 1 = w1.heap.size := by omega
  replace HS := Lib.hid (HS.out.ext (Ext.trans (by repeat (first | with_reducible exact Ext.refl _ | with_reducible refine Ext.drew ?_ | with_reducible refine Ext.drewN ?_ _ | with_reducible refine Ext.alloc ?_ _ | with_reducible refine Ext.setCell ?_ (by first | omega | (simp; done) | (simp; omega)) _)) hx1))
  have X1 : Hid (Ext w w1) := Lib.hid (Ext.trans (by repeat (first | with_reducible exact Ext.refl w | with_reducible refine Ext.drew ?_ | with_reducible refine Ext.drewN ?_ _ | with_reducible refine Ext.alloc ?_ _ | with_reducible refine Ext.setCell ?_ (by first | omega | (simp; done) | (simp; omega)) _)) hx1)
  clear hx1 z1
  go_wp2_with fail
  (with_reducible refine (rosUntil_any u false _ HU.out).mono ?_)
  rintro e w2 ⟨rfl, hx2⟩
  have z2 := hx2.size
  try simp at z2
  replace HS := Lib.hid (HS.out.ext (Ext.trans (by repeat (first | with_reducible exact Ext.refl _ | with_reducible refine Ext.drew ?_ | with_reducible refine Ext.drewN ?_ _ | with_reducible refine Ext.alloc ?_ _ | with_reducible refine Ext.setCell ?_ (by first | omega | (simp; done) | (simp; omega)) _)) hx2))
  have X2 : Hid (Ext w w2) := Lib.hid (Ext.trans (by repeat (first | with_reducible exact X1.out | with_reducible refine Ext.drew ?_ | with_reducible refine Ext.drewN ?_ _ | with_reducible refine Ext.alloc ?_ _ | with_reducible refine Ext.setCell ?_ (by first | omega | (simp; done) | (simp; omega)) _)) hx2)
  clear c1_0 rc1 rc1a rc1b rc1c rc1n X1 hx2 z2
  obtain ⟨q1, q2⟩ := Prod.mk.inj (HF.out.trans (show _ = (([] : List (Int × Int × Int × Int × Bool × Bool)), (3 : Int)) from by unfold punV; rw [← Hp.out, if_neg (by simpa using hc), if_pos HUU.out]))
  replace q2 := q2.symm
  subst q1
  subst q2
  go_wp2_with fail
  refine bodyPost_ret (v := .tuple #[.slice none 0 0, .int .i64 3]) (by simp [results, Try.results60, go_sem, World.cell?_alloc_past]; try rfl) rfl (RetV.nil (xs := [.int .i64 3]) ?_)
  exact (by repeat (first | with_reducible exact X2.out | with_reducible refine Ext.drew ?_ | with_reducible refine Ext.drewN ?_ _ | with_reducible refine Ext.alloc ?_ _ | with_reducible refine Ext.setCell ?_ (by first | omega | (simp; done) | (simp; omega)) _))
set_option maxRecDepth 100000 in
set_option maxHeartbeats 2000000 in
theorem rosPunish_ok (A : Option Addr) (c : Nat) (l L : List (Int × Int × Int × Int × Bool × Bool)) (k : Nat) (x0 x1 x2 x3 : Int) (x4 x5 : Bool) (cl u p e : Int) (w : World) (hs : Sl w 6 A l.length c (l.flatMap valC)) (hw : ∀ x ∈ l, (Lit.int .i64 x.1).wf = true) (hnil : A = none → c = 0) (hp : p = pndV l (k : Int) cl) (hF : (L, e) = punV l (k : Int) cl u) (hc : p = 0) (hu : 1 ≤ u ∧ u ≤ 4296015872) (hk : l[k]? = some (x0, x1, x2, x3, x4, x5)) (h32 : l.length ≤ 32) :
    Calls Try.prog 60 #[.slice A l.length c, .int .i64 (k : Int), .int .i64 cl, .int .i64 u] w (RetV L [.int .i64 e] w) := by
  have s1 := hs.small
  have e7 : (p != 0) = false := by simpa using hc
  have HU : Hid (true = decide (1 ≤ u ∧ u ≤ 4296015872)) := Lib.hid (decide_eq_true hu).symm
  have hk1 : (k : Int) < l.length := by have := (List.getElem?_eq_some_iff.1 hk).1; omega
  obtain ⟨q1, q2⟩ := Prod.mk.inj (hF.trans (punV_at (by rw [← hp]; exact hc) hu hk))
  replace q2 := q2.symm
  subst q1
  subst q2
  have HK := Lib.hid hk
  have HS := Lib.hid hs
  have Hp := Lib.hid hp
  clear hs hp hF hk hu
  have HW := Lib.hid hw
  clear hw
  go_enter Try.func60, Try.ntmps60
  go_wp2_with fail
  (with_reducible refine (rosPunished_ev A c l (k : Int) cl p _ (HS.out.ext (by repeat (first | with_reducible exact Ext.refl _ | with_reducible refine Ext.drew ?_ | with_reducible refine Ext.drewN ?_ _ | with_reducible refine Ext.alloc ?_ _ | with_reducible refine Ext.setCell ?_ (by first | omega | (simp; done) | (simp; omega)) _))) HW.out Hp.out).mono ?_)
  rintro e w1 ⟨rfl, hx1⟩
  have c0_0 : w1.cell? ⟨w.heap.size, 0, none⟩ = some (.int .i64 cl) := hx1.has (by first | fail | (simp [go_sem, World.cell?_alloc_past]; done))
  have c1_0 : w1.cell? ⟨w.heap.size + 1, 0, none⟩ = some (.int .i64 u) := hx1.has (by first | fail | (simp [go_sem, World.cell?_alloc_past]; done))
  have z1 := hx1.size
  try simp at z1
  have lt_c0_c1 : w.heap.size < w.heap.size + 1 := by omega
  have ne_c0_c1 : ¬ w.heap.size = w.heap.size + 1 := by omega
  have ne_c1_c0 : ¬ w.heap.size + 1 = w.heap.size := by omega
  have rc0 : w.heap.size < w1.heap.size := by omega
  have rc0a : w.heap.size < w1.heap.size + 1 := by omega
  have rc0b : w.heap.size < w1.heap.size + 1 + 1 := by omega
  have rc0c : w.heap.size < w1.heap.size + 1 + 1 + 1 := by omega
  have rc0n : ¬ w.heap.size = w1.heap.size := by omega
  have rc1 : w.heap.size + 1 < w1.heap.size := by omega
  have rc1a : w.heap.size + 1 < w1.heap.size + 1 := by omega
  have rc1b : w.heap.size + 1 < w1.heap.size + 1 + 1 := by omega
  have rc1c : w.heap.size + 1 < w1.heap.size + 1 + 1 + 1 := by omega
  have rc1n : ¬ w.heap.size + 1 = w1.heap.size := by omega
  replace HS := Lib.hid (HS.out.ext (Ext.trans (by repeat (first | with_reducible exact Ext.refl _ | with_reducible refine Ext.drew ?_ | with_reducible refine Ext.drewN ?_ _ | with_reducible refine Ext.alloc ?_ _ | with_reducible refine Ext.setCell ?_ (by first | omega | (simp; done) | (simp; omega)) _)) hx1))
  have X1 : Hid (Ext w w1) := Lib.hid (Ext.trans (by repeat (first | with_reducible exact Ext.refl w | with_reducible refine Ext.drew ?_ | with_reducible refine Ext.drewN ?_ _ | with_reducible refine Ext.alloc ?_ _ | with_reducible refine Ext.setCell ?_ (by first | omega | (simp; done) | (simp; omega)) _)) hx1)
  clear hx1 z1
  go_wp2_with fail
  (with_reducible refine (rosUntil_any u true _ HU.out).mono ?_)
  rintro e w2 ⟨rfl, hx2⟩
  replace c0_0 : w2.cell? ⟨w.heap.size, 0, none⟩ = some (.int .i64 cl) := hx2.has (by first | exact c0_0 | (simp [go_sem, World.cell?_alloc_past, c0_0, c1_0, ne_c0_c1, ne_c1_c0, rc0, rc0a, rc0b, rc0c, rc0n, rc1, rc1a, rc1b, rc1c, rc1n]; done))
  replace c1_0 : w2.cell? ⟨w.heap.size + 1, 0, none⟩ = some (.int .i64 u) := hx2.has (by first | exact c1_0 | (simp [go_sem, World.cell?_alloc_past, c0_0, c1_0, ne_c0_c1, ne_c1_c0, rc0, rc0a, rc0b, rc0c, rc0n, rc1, rc1a, rc1b, rc1c, rc1n]; done))
  have z2 := hx2.size
  try simp at z2
  replace rc0 : w.heap.size < w2.heap.size := by omega
  replace rc0a : w.heap.size < w2.heap.size + 1 := by omega
  replace rc0b : w.heap.size < w2.heap.size + 1 + 1 := by omega
  replace rc0c : w.heap.size < w2.heap.size + 1 + 1 + 1 := by omega
  replace rc0n : ¬ w.heap.size = w2.heap.size := by omega
  replace rc1 : w.heap.size + 1 < w2.heap.size := by omega
  replace rc1a : w.heap.size + 1 < w2.heap.size + 1 := by omega
  replace rc1b : w.heap.size + 1 < w2.heap.size + 1 + 1 := by omega
  replace rc1c : w.heap.size + 1 < w2.heap.size + 1 + 1 + 1 := by omega
  replace rc1n : ¬ w.heap.size + 1 = w2.heap.size := by omega
  replace HS := Lib.hid (HS.out.ext (Ext.trans (by repeat (first | with_reducible exact Ext.refl _ | with_reducible refine Ext.drew ?_ | with_reducible refine Ext.drewN ?_ _ | with_reducible refine Ext.alloc ?_ _ | with_reducible refine Ext.setCell ?_ (by first | omega | (simp; done) | (simp; omega)) _)) hx2))
  have X2 : Hid (Ext w w2) := Lib.hid (Ext.trans (by repeat (first | with_reducible exact X1.out | with_reducible refine Ext.drew ?_ | with_reducible refine Ext.drewN ?_ _ | with_reducible refine Ext.alloc ?_ _ | with_reducible refine Ext.setCell ?_ (by first | omega | (simp; done) | (simp; omega)) _)) hx2)
  clear X1 hx2 z2
  go_wp2_with fail
  have hrm := Ext.size X2.out
  (with_reducible refine (rosChangePunish A c k l x0 x1 x2 x3 x4 x5 (w.heap.size + 1) w.heap.size u cl _ (HS.out.ext (by repeat (first | with_reducible exact Ext.refl _ | with_reducible refine Ext.drew ?_ | with_reducible refine Ext.drewN ?_ _ | with_reducible refine Ext.alloc ?_ _ | with_reducible refine Ext.setCell ?_ (by first | omega | (simp; done) | (simp; omega)) _))) (by omega) hnil HK.out c1_0 c0_0).mono ?_)
  rintro e w3 ⟨A5, c5, rfl, hA5, hO5, hx3⟩
  replace c0_0 : w3.cell? ⟨w.heap.size, 0, none⟩ = some (.int .i64 cl) := hx3.has (by first | exact c0_0 | (simp [go_sem, World.cell?_alloc_past, c0_0, c1_0, ne_c0_c1, ne_c1_c0, rc0, rc0a, rc0b, rc0c, rc0n, rc1, rc1a, rc1b, rc1c, rc1n]; done))
  replace c1_0 : w3.cell? ⟨w.heap.size + 1, 0, none⟩ = some (.int .i64 u) := hx3.has (by first | exact c1_0 | (simp [go_sem, World.cell?_alloc_past, c0_0, c1_0, ne_c0_c1, ne_c1_c0, rc0, rc0a, rc0b, rc0c, rc0n, rc1, rc1a, rc1b, rc1c, rc1n]; done))
  have z3 := hx3.size
  try simp at z3
  replace rc0 : w.heap.size < w3.heap.size := by omega
  replace rc0a : w.heap.size < w3.heap.size + 1 := by omega
  replace rc0b : w.heap.size < w3.heap.size + 1 + 1 := by omega
  replace rc0c : w.heap.size < w3.heap.size + 1 + 1 + 1 := by omega
  replace rc0n : ¬ w.heap.size = w3.heap.size := by omega
  replace rc1 : w.heap.size + 1 < w3.heap.size := by omega
  replace rc1a : w.heap.size + 1 < w3.heap.size + 1 := by omega
  replace rc1b : w.heap.size + 1 < w3.heap.size + 1 + 1 := by omega
  replace rc1c : w.heap.size + 1 < w3.heap.size + 1 + 1 + 1 := by omega
  replace rc1n : ¬ w.heap.size + 1 = w3.heap.size := by omega
  replace HS := Lib.hid (HS.out.ext (Ext.trans (by repeat (first | with_reducible exact Ext.refl _ | with_reducible refine Ext.drew ?_ | with_reducible refine Ext.drewN ?_ _ | with_reducible refine Ext.alloc ?_ _ | with_reducible refine Ext.setCell ?_ (by first | omega | (simp; done) | (simp; omega)) _)) hx3))
  have X3 : Hid (Ext w w3) := Lib.hid (Ext.trans (by repeat (first | with_reducible exact X2.out | with_reducible refine Ext.drew ?_ | with_reducible refine Ext.drewN ?_ _ | with_reducible refine Ext.alloc ?_ _ | with_reducible refine Ext.setCell ?_ (by first | omega | (simp; done) | (simp; omega)) _)) hx3)
  have HO := Lib.hid hO5
  clear X2 hx3 z3 hO5
  have HO2 := Lib.hid (OwnVal.lower HO.out (show w.heap.size ≤ _ from by first | exact hrm | (simp; omega) | omega))
  go_wp2_with fail
  refine bodyPost_ret (v := .tuple #[.slice A5 (l.set k (punOne (x0, x1, x2, x3, x4, x5) cl u)).length c5, .int .i64 0]) (by simp [results, Try.results60]; try rfl) rfl (RetV.mk (xs := [.int .i64 0]) HO2.out (by repeat (first | with_reducible exact X3.out | with_reducible refine Ext.drew ?_ | with_reducible refine Ext.drewN ?_ _ | with_reducible refine Ext.alloc ?_ _ | with_reducible refine Ext.setCell ?_ (by first | omega | (simp; done) | (simp; omega)) _)) rfl)
theorem rosPunish_ev (A : Option Addr) (c : Nat) (l L : List (Int × Int × Int × Int × Bool × Bool)) (v cl u e : Int) (w : World) (hs : Sl w 6 A l.length c (l.flatMap valC)) (hw : ∀ x ∈ l, (Lit.int .i64 x.1).wf = true) (hnil : A = none → c = 0) (hF : (L, e) = punV l v cl u) :
    Calls Try.prog 60 #[.slice A l.length c, .int .i64 v, .int .i64 cl, .int .i64 u] w (RetV L [.int .i64 e] w) := by
  obtain ⟨p, hp⟩ : ∃ p, p = pndV l v cl := ⟨_, rfl⟩
  by_cases hc : p = 0
  · by_cases hu : 1 ≤ u ∧ u ≤ 4296015872
    · obtain ⟨h1, h2, _⟩ := pndV_zero (l := l) (v := v) (cl := cl) (by rw [← hp]; exact hc)
      obtain ⟨k, rfl, hk⟩ := rfs_in h2
      obtain ⟨⟨x0, x1, x2, x3, x4, x5⟩, hx⟩ : ∃ x, x = l[k] := ⟨_, rfl⟩
      exact rosPunish_ok A c l L k x0 x1 x2 x3 x4 x5 cl u p e w hs hw hnil hp hF hc hu (by rw [hx]; exact List.getElem?_eq_getElem hk) (chkV_zero h1).2.1
    · exact rosPunish_unt A c l L v cl u p e w hs hw hnil hp hF hc hu
  · exact rosPunish_pnd A c l L v cl u p e w hs hw hnil hp hF hc
set_option maxRecDepth 100000 in
set_option maxHeartbeats 2000000 in
theorem rPunish16_pnd (A : Option Addr) (c : Nat) (l L : List (Int × Int × Int × Int × Bool × Bool)) (v : Int) (cl u p e : Int) (w : World) (hs : Sl w 6 A l.length c (l.flatMap valC)) (hp : p = pndV l v cl) (hF : (L, e) = punV l v cl u) (hc : p ≠ 0) :
    Calls Try.prog 61 #[.slice A l.length c, .int .i64 v, .int .i64 cl, .int .i64 u] w (RetV L [.int .i64 e] w) := by
  have s1 := hs.small
  have e7 : (p != 0) = true := by simpa using hc
  have HS := Lib.hid hs
  have Hp := Lib.hid hp
  have HF := Lib.hid hF
  clear hs hp hF
  go_enter Try.func61, Try.ntmps61
  go_wp2_with fail
  (with_reducible refine (rPunished16_ev A c l v cl p _ (HS.out.ext (by repeat (first | with_reducible exact Ext.refl _ | with_reducible refine Ext.drew ?_ | with_reducible refine Ext.drewN ?_ _ | with_reducible refine Ext.alloc ?_ _ | with_reducible refine Ext.setCell ?_ (by first | omega | (simp; done) | (simp; omega)) _))) Hp.out).mono ?_)
  rintro e w1 ⟨rfl, hx1⟩
  have z1 := hx1.size
  try simp at z1
  replace HS := Lib.hid (HS.out.ext (Ext.trans (by repeat (first | with_reducible exact Ext.refl _ | with_reducible refine Ext.drew ?_ | with_reducible refine Ext.drewN ?_ _ | with_reducible refine Ext.alloc ?_ _ | with_reducible refine Ext.setCell ?_ (by first | omega | (simp; done) | (simp; omega)) _)) hx1))
  have X1 : Hid (Ext w w1) := Lib.hid (Ext.trans (by repeat (first | with_reducible exact Ext.refl w | with_reducible refine Ext.drew ?_ | with_reducible refine Ext.drewN ?_ _ | with_reducible refine Ext.alloc ?_ _ | with_reducible refine Ext.setCell ?_ (by first | omega | (simp; done) | (simp; omega)) _)) hx1)
  clear hx1 z1
  obtain ⟨q1, q2⟩ := Prod.mk.inj (HF.out.trans (show _ = (([] : List (Int × Int × Int × Int × Bool × Bool)), (p : Int)) from by unfold punV; rw [← Hp.out, if_pos hc]))
  replace q2 := q2.symm
  subst q1
  subst q2
  go_wp2_with fail
  refine bodyPost_ret (v := .tuple #[.slice none 0 0, .int .i64 p]) (by simp [results, Try.results61, go_sem, World.cell?_alloc_past]; try rfl) rfl (RetV.nil (xs := [.int .i64 p]) ?_)
  exact (by repeat (first | with_reducible exact X1.out | with_reducible refine Ext.drew ?_ | with_reducible refine Ext.drewN ?_ _ | with_reducible refine Ext.alloc ?_ _ | with_reducible refine Ext.setCell ?_ (by first | omega | (simp; done) | (simp; omega)) _))
set_option maxRecDepth 100000 in
set_option maxHeartbeats 2000000 in
theorem rPunish16_unt (A : Option Addr) (c : Nat) (l L : List (Int × Int × Int × Int × Bool × Bool)) (v : Int) (cl u p e : Int) (w : World) (hs : Sl w 6 A l.length c (l.flatMap valC)) (hp : p = pndV l v cl) (hF : (L, e) = punV l v cl u) (hc : p = 0) (hu : ¬ (1 ≤ u ∧ u ≤ 4296015872)) :
    Calls Try.prog 61 #[.slice A l.length c, .int .i64 v, .int .i64 cl, .int .i64 u] w (RetV L [.int .i64 e] w) := by
  have s1 := hs.small
  have e7 : (p != 0) = false := by simpa using hc
  have HU : Hid (false = decide (1 ≤ u ∧ u ≤ 4296015872)) := Lib.hid (decide_eq_false hu).symm
  have HUU := Lib.hid hu
  clear hu
  have HS := Lib.hid hs
  have Hp := Lib.hid hp
  have HF := Lib.hid hF
  clear hs hp hF
  go_enter Try.func61, Try.ntmps61
  go_wp2_with fail
  (with_reducible refine (rPunished16_ev A c l v cl p _ (HS.out.ext (by repeat (first | with_reducible exact Ext.refl _ | with_reducible refine Ext.drew ?_ | with_reducible refine Ext.drewN ?_ _ | with_reducible refine Ext.alloc ?_ _ | with_reducible refine Ext.setCell ?_ (by first | omega | (simp; done) | (simp; omega)) _))) Hp.out).mono ?_)
  rintro e w1 ⟨rfl, hx1⟩
  have z1 := hx1.size
  try simp at z1
  replace HS := Lib.hid (HS.out.ext (Ext.trans (by repeat (first | with_reducible exact Ext.refl _ | with_reducible refine Ext.drew ?_ | with_reducible refine Ext.drewN ?_ _ | with_reducible refine Ext.alloc ?_ _ | with_reducible refine Ext.setCell ?_ (by first | omega | (simp; done) | (simp; omega)) _)) hx1))
  have X1 : Hid (Ext w w1) := Lib.hid (Ext.trans (by repeat (first | with_reducible exact Ext.refl w | with_reducible refine Ext.drew ?_ | with_reducible refine Ext.drewN ?_ _ | with_reducible refine Ext.alloc ?_ _ | with_reducible refine Ext.setCell ?_ (by first | omega | (simp; done) | (simp; omega)) _)) hx1)
  clear hx1 z1
  go_wp2_with fail
  (with_reducible refine (rUntil16_any u false _ HU.out).mono ?_)
  rintro e w2 ⟨rfl, hx2⟩
  have z2 := hx2.size
  try simp at z2
  replace HS := Lib.hid (HS.out.ext (Ext.trans (by repeat (first | with_reducible exact Ext.refl _ | with_reducible refine Ext.drew ?_ | with_reducible refine Ext.drewN ?_ _ | with_reducible refine Ext.alloc ?_ _ | with_reducible refine Ext.setCell ?_ (by first | omega | (simp; done) | (simp; omega)) _)) hx2))
  have X2 : Hid (Ext w w2) := Lib.hid (Ext.trans (by repeat (first | with_reducible exact X1.out | with_reducible refine Ext.drew ?_ | with_reducible refine Ext.drewN ?_ _ | with_reducible refine Ext.alloc ?_ _ | with_reducible refine Ext.setCell ?_ (by first | omega | (simp; done) | (simp; omega)) _)) hx2)
  clear X1 hx2 z2
  obtain ⟨q1, q2⟩ := Prod.mk.inj (HF.out.trans (show _ = (([] : List (Int × Int × Int × Int × Bool × Bool)), (3 : Int)) from by unfold punV; rw [← Hp.out, if_neg (by simpa using hc), if_pos HUU.out]))
  replace q2 := q2.symm
  subst q1
  subst q2
  go_wp2_with fail
  refine bodyPost_ret (v := .tuple #[.slice none 0 0, .int .i64 3]) (by simp [results, Try.results61, go_sem, World.cell?_alloc_past]; try rfl) rfl (RetV.nil (xs := [.int .i64 3]) ?_)
  exact (by repeat (first | with_reducible exact X2.out | with_reducible refine Ext.drew ?_ | with_reducible refine Ext.drewN ?_ _ | with_reducible refine Ext.alloc ?_ _ | with_reducible refine Ext.setCell ?_ (by first | omega | (simp; done) | (simp; omega)) _))
set_option maxRecDepth 100000 in
set_option maxHeartbeats 2000000 in
theorem rPunish16_ok (A : Option Addr) (c : Nat) (l L : List (Int × Int × Int × Int × Bool × Bool)) (k : Nat) (x0 x1 x2 x3 : Int) (x4 x5 : Bool) (cl u p e : Int) (w : World) (hs : Sl w 6 A l.length c (l.flatMap valC)) (hp : p = pndV l (k : Int) cl) (hF : (L, e) = punV l (k : Int) cl u) (hc : p = 0) (hu : 1 ≤ u ∧ u ≤ 4296015872) (hk : l[k]? = some (x0, x1, x2, x3, x4, x5)) (h32 : l.length ≤ 32) :
    Calls Try.prog 61 #[.slice A l.length c, .int .i64 (k : Int), .int .i64 cl, .int .i64 u] w (RetV L [.int .i64 e] w) := by
  have s1 := hs.small
  have e7 : (p != 0) = false := by simpa using hc
  have HU : Hid (true = decide (1 ≤ u ∧ u ≤ 4296015872)) := Lib.hid (decide_eq_true hu).symm
  have hk1 : (k : Int) < l.length := by have := (List.getElem?_eq_some_iff.1 hk).1; omega
  obtain ⟨q1, q2⟩ := Prod.mk.inj (hF.trans (punV_at (by rw [← hp]; exact hc) hu hk))
  replace q2 := q2.symm
  subst q1
  subst q2
  have HK := Lib.hid hk
  have HS := Lib.hid hs
  have Hp := Lib.hid hp
  clear hs hp hF hk hu
  obtain ⟨mx, hmx⟩ : ∃ mx, mx = max x3 u := ⟨_, rfl⟩
  have HM := Lib.hid hmx
  have hmax := rosPunOne_max hmx
  clear hmx
  go_enter Try.func61, Try.ntmps61
  go_wp2_with fail
  (with_reducible refine (rPunished16_ev A c l (k : Int) cl p _ (HS.out.ext (by repeat (first | with_reducible exact Ext.refl _ | with_reducible refine Ext.drew ?_ | with_reducible refine Ext.drewN ?_ _ | with_reducible refine Ext.alloc ?_ _ | with_reducible refine Ext.setCell ?_ (by first | omega | (simp; done) | (simp; omega)) _))) Hp.out).mono ?_)
  rintro e w1 ⟨rfl, hx1⟩
  have z1 := hx1.size
  try simp at z1
  replace HS := Lib.hid (HS.out.ext (Ext.trans (by repeat (first | with_reducible exact Ext.refl _ | with_reducible refine Ext.drew ?_ | with_reducible refine Ext.drewN ?_ _ | with_reducible refine Ext.alloc ?_ _ | with_reducible refine Ext.setCell ?_ (by first | omega | (simp; done) | (simp; omega)) _)) hx1))
  have X1 : Hid (Ext w w1) := Lib.hid (Ext.trans (by repeat (first | with_reducible exact Ext.refl w | with_reducible refine Ext.drew ?_ | with_reducible refine Ext.drewN ?_ _ | with_reducible refine Ext.alloc ?_ _ | with_reducible refine Ext.setCell ?_ (by first | omega | (simp; done) | (simp; omega)) _)) hx1)
  clear hx1 z1
  go_wp2_with fail
  (with_reducible refine (rUntil16_any u true _ HU.out).mono ?_)
  rintro e w2 ⟨rfl, hx2⟩
  have z2 := hx2.size
  try simp at z2
  replace HS := Lib.hid (HS.out.ext (Ext.trans (by repeat (first | with_reducible exact Ext.refl _ | with_reducible refine Ext.drew ?_ | with_reducible refine Ext.drewN ?_ _ | with_reducible refine Ext.alloc ?_ _ | with_reducible refine Ext.setCell ?_ (by first | omega | (simp; done) | (simp; omega)) _)) hx2))
  have X2 : Hid (Ext w w2) := Lib.hid (Ext.trans (by repeat (first | with_reducible exact X1.out | with_reducible refine Ext.drew ?_ | with_reducible refine Ext.drewN ?_ _ | with_reducible refine Ext.alloc ?_ _ | with_reducible refine Ext.setCell ?_ (by first | omega | (simp; done) | (simp; omega)) _)) hx2)
  clear X1 hx2 z2
  go_wp2_with fail
  have hrm := Ext.size X2.out
  (with_reducible refine (kCopyVals_any A c l _ (HS.out.ext (by repeat (first | with_reducible exact Ext.refl _ | with_reducible refine Ext.drew ?_ | with_reducible refine Ext.drewN ?_ _ | with_reducible refine Ext.alloc ?_ _ | with_reducible refine Ext.setCell ?_ (by first | omega | (simp; done) | (simp; omega)) _))) (by omega)).mono ?_)
  rintro e w3 ⟨A1, c1, rfl, hn1, hO1, hx3⟩
  have z3 := hx3.size
  try simp at z3
  replace HS := Lib.hid (HS.out.ext (Ext.trans (by repeat (first | with_reducible exact Ext.refl _ | with_reducible refine Ext.drew ?_ | with_reducible refine Ext.drewN ?_ _ | with_reducible refine Ext.alloc ?_ _ | with_reducible refine Ext.setCell ?_ (by first | omega | (simp; done) | (simp; omega)) _)) hx3))
  have X3 : Hid (Ext w w3) := Lib.hid (Ext.trans (by repeat (first | with_reducible exact X2.out | with_reducible refine Ext.drew ?_ | with_reducible refine Ext.drewN ?_ _ | with_reducible refine Ext.alloc ?_ _ | with_reducible refine Ext.setCell ?_ (by first | omega | (simp; done) | (simp; omega)) _)) hx3)
  have HO := Lib.hid (show OwnVal _ _ _ _ _ from hO1)
  clear X2 hx3 z3
  rcases HO.out.2 with ⟨_, h0⟩ | ⟨g, cap, cur, h', hbg, _⟩
  · have := (List.getElem?_eq_some_iff.1 HK.out).1; omega
  injection h' with q1 q2 q3
  subst q1; subst q3
  have HC : Hid (Cur 96 valC 6 _ _ g l.length c1 l k (x0, x1, x2, x3, x4, x5)) := Lib.hid (Cur.mk HO.out HK.out rfl)
  have z_2 := Cur.cell valC_len HC.out (j := 2) rfl
  have z_2f := Cur.froz HC.out 2
  have z_3 := Cur.cell valC_len HC.out (j := 3) rfl
  have z_3f := Cur.froz HC.out 3
  have z_4 := Cur.cell valC_len HC.out (j := 4) rfl
  have z_4f := Cur.froz HC.out 4
  have z_5 := Cur.cell valC_len HC.out (j := 5) rfl
  have z_5f := Cur.froz HC.out 5
  clear HO hn1 hO1
  by_cases h1 : cl = 1
  · have e_h1 : (cl == 1) = true := by simpa using h1
    have hy : punOne (x0, x1, x2, x3, x4, x5) cl u = (x0, x1, 4, mx, true, x5) := by rw [HM.out]; simp [punOne, h1]
    go_wp2_with fail
    refine bodyPost_ret (v := .tuple #[.slice (some ⟨g, 0, none⟩) l.length c1, .int .i64 0]) (by simp [results, Try.results61]; try rfl) rfl ?_
    rw [hy]
    exact RetV.cur (xs := [.int .i64 0]) (Cur.put valC_len ((Cur.put valC_len ((Cur.put valC_len ((Cur.put valC_len (HC.out) 3 (.int .i64 mx) (x0, x1, x2, mx, x4, x5) (by decide) rfl)) 2 (.int .i64 3) (x0, x1, 3, mx, x4, x5) (by decide) rfl)) 4 (.bool true) (x0, x1, 3, mx, true, x5) (by decide) rfl)) 2 (.int .i64 4) (x0, x1, 4, mx, true, x5) (by decide) rfl) (by first | exact hrm | (simp; omega) | omega) (by repeat (first | with_reducible exact X3.out | with_reducible refine Ext.drew ?_ | with_reducible refine Ext.drewN ?_ _ | with_reducible refine Ext.alloc ?_ _ | with_reducible refine Ext.setCell ?_ (by first | omega | (simp; done) | (simp; omega)) _))
  · have e_h1 : (cl == 1) = false := by simpa using h1
    have hy : punOne (x0, x1, x2, x3, x4, x5) cl u = (x0, x1, 3, mx, x4, true) := by rw [HM.out]; simp [punOne, h1]
    go_wp2_with fail
    refine bodyPost_ret (v := .tuple #[.slice (some ⟨g, 0, none⟩) l.length c1, .int .i64 0]) (by simp [results, Try.results61]; try rfl) rfl ?_
    rw [hy]
    exact RetV.cur (xs := [.int .i64 0]) (Cur.put valC_len ((Cur.put valC_len ((Cur.put valC_len (HC.out) 3 (.int .i64 mx) (x0, x1, x2, mx, x4, x5) (by decide) rfl)) 2 (.int .i64 3) (x0, x1, 3, mx, x4, x5) (by decide) rfl)) 5 (.bool true) (x0, x1, 3, mx, x4, true) (by decide) rfl) (by first | exact hrm | (simp; omega) | omega) (by repeat (first | with_reducible exact X3.out | with_reducible refine Ext.drew ?_ | with_reducible refine Ext.drewN ?_ _ | with_reducible refine Ext.alloc ?_ _ | with_reducible refine Ext.setCell ?_ (by first | omega | (simp; done) | (simp; omega)) _))
theorem rPunish16_ev (A : Option Addr) (c : Nat) (l L : List (Int × Int × Int × Int × Bool × Bool)) (v cl u e : Int) (w : World) (hs : Sl w 6 A l.length c (l.flatMap valC)) (hF : (L, e) = punV l v cl u) :
    Calls Try.prog 61 #[.slice A l.length c, .int .i64 v, .int .i64 cl, .int .i64 u] w (RetV L [.int .i64 e] w) := by
  obtain ⟨p, hp⟩ : ∃ p, p = pndV l v cl := ⟨_, rfl⟩
  by_cases hc : p = 0
  · by_cases hu : 1 ≤ u ∧ u ≤ 4296015872
    · obtain ⟨h1, h2, _⟩ := pndV_zero (l := l) (v := v) (cl := cl) (by rw [← hp]; exact hc)
      obtain ⟨k, rfl, hk⟩ := rfs_in h2
      obtain ⟨⟨x0, x1, x2, x3, x4, x5⟩, hx⟩ : ∃ x, x = l[k] := ⟨_, rfl⟩
      exact rPunish16_ok A c l L k x0 x1 x2 x3 x4 x5 cl u p e w hs hp hF hc hu (by rw [hx]; exact List.getElem?_eq_getElem hk) (chkV_zero h1).2.1
    · exact rPunish16_unt A c l L v cl u p e w hs hp hF hc hu
  · exact rPunish16_pnd A c l L v cl u p e w hs hp hF hc
end Go.Proofs.Ytjdpgapmdmpjjaa
