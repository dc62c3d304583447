/- roster: Unjail, Punished, Punish on both sides. Conditions stand in each lemma. -/
import Derived.Test.YtjdpgapmdmpjjaaRos15
import Derived.Test.YtjdpgapmdmpjjaaRos7
set_option linter.unusedVariables false
set_option linter.unusedSimpArgs false
namespace Go.Proofs.Ytjdpgapmdmpjjaa
open Go.RowKit Go.ChangeShapes Go.WideShapes Go.Deep Go.Joins

theorem rRefuse16_e (A : Option Addr) (n c : Nat) (l : List (Int × Int × Int × Int × Bool × Bool)) (v ev : Int) (w : World) (h : Sl w 6 A n c (l.flatMap valC)) (he : ev = rfsV l v) :
    Calls Try.prog 47 #[.slice A n c, .int .i64 v] w fun e w' => e = .returned (.int .i64 ev) ∧ Ext w w' := by
  rw [he]
  exact rRefuse16_any A n c l v w h
theorem rfs_in {l : List (Int × Int × Int × Int × Bool × Bool)} {v : Int} (h : rfsV l v = 0) : ∃ k : Nat, v = (k : Int) ∧ k < l.length := by
  unfold rfsV at h
  by_cases h0 : v < 0 ∨ v ≥ l.length
  · rw [if_pos h0] at h; simp at h
  · exact ⟨v.toNat, by omega, by omega⟩
set_option maxRecDepth 100000 in
set_option maxHeartbeats 2000000 in
theorem rosUnjail_chk (A : Option Addr) (c : Nat) (l L : List (Int × Int × Int × Int × Bool × Bool)) (v : Int) (by_ h f1 f2 e : Int) (w : World) (hs : Sl w 6 A l.length c (l.flatMap valC)) (hw : ∀ x ∈ l, (Lit.int .i64 x.1).wf = true) (hnil : A = none → c = 0) (hf : (f1, f2) = chkV l) (hF : (L, e) = unjV l v by_ h) (hc : f1 ≠ 0) :
    Calls Try.prog 58 #[.slice A l.length c, .int .i64 v, .int .i64 by_, .int .i64 h] w (RetV L [.int .i64 e] w) := by
  have s1 := hs.small
  have e7 : (f1 != 0) = true := by simpa using hc
  have HS := Lib.hid hs
  have Hf := Lib.hid hf
  have HF := Lib.hid hF
  have HW := Lib.hid hw
  clear hs hf hF hw
  go_enter Try.func58, Try.ntmps58
  go_wp2_with fail
  (with_reducible refine (rosCheck_ev A l.length c l f1 f2 _ (HS.out.ext (by repeat (first | with_reducible exact Ext.refl _ | with_reducible refine Ext.drew ?_ | with_reducible refine Ext.drewN ?_ _ | with_reducible refine Ext.alloc ?_ _ | with_reducible refine Ext.setCell ?_ (by first | omega | (simp; done) | (simp; omega)) _))) HW.out Hf.out).mono ?_)
  rintro e w1 ⟨rfl, hx1⟩
  have z1 := hx1.size
  try simp at z1
  replace HS := Lib.hid (HS.out.ext (Ext.trans (by repeat (first | with_reducible exact Ext.refl _ | with_reducible refine Ext.drew ?_ | with_reducible refine Ext.drewN ?_ _ | with_reducible refine Ext.alloc ?_ _ | with_reducible refine Ext.setCell ?_ (by first | omega | (simp; done) | (simp; omega)) _)) hx1))
  have X1 : Hid (Ext w w1) := Lib.hid (Ext.trans (by repeat (first | with_reducible exact Ext.refl w | with_reducible refine Ext.drew ?_ | with_reducible refine Ext.drewN ?_ _ | with_reducible refine Ext.alloc ?_ _ | with_reducible refine Ext.setCell ?_ (by first | omega | (simp; done) | (simp; omega)) _)) hx1)
  clear hx1 z1
  obtain ⟨q1, q2⟩ := Prod.mk.inj (HF.out.trans (show _ = (([] : List (Int × Int × Int × Int × Bool × Bool)), (f1 : Int)) from by rw [unjV_chk (by rw [← Hf.out]; exact hc), ← Hf.out]))
  replace q2 := q2.symm
  subst q1
  subst q2
  go_wp2_with fail
  refine bodyPost_ret (v := .tuple #[.slice none 0 0, .int .i64 f1]) (by simp [results, Try.results58, go_sem, World.cell?_alloc_past]; try rfl) rfl (RetV.nil (xs := [.int .i64 f1]) ?_)
  exact (by repeat (first | with_reducible exact X1.out | with_reducible refine Ext.drew ?_ | with_reducible refine Ext.drewN ?_ _ | with_reducible refine Ext.alloc ?_ _ | with_reducible refine Ext.setCell ?_ (by first | omega | (simp; done) | (simp; omega)) _))
set_option maxRecDepth 100000 in
set_option maxHeartbeats 2000000 in
theorem rosUnjail_out (A : Option Addr) (c : Nat) (l L : List (Int × Int × Int × Int × Bool × Bool)) (v : Int) (by_ h f1 f2 e : Int) (w : World) (hs : Sl w 6 A l.length c (l.flatMap valC)) (hw : ∀ x ∈ l, (Lit.int .i64 x.1).wf = true) (hnil : A = none → c = 0) (hf : (f1, f2) = chkV l) (hF : (L, e) = unjV l v by_ h) (hc : f1 = 0) (ho : v < 0 ∨ v ≥ l.length) :
    Calls Try.prog 58 #[.slice A l.length c, .int .i64 v, .int .i64 by_, .int .i64 h] w (RetV L [.int .i64 e] w) := by
  have s1 := hs.small
  have e7 : (f1 != 0) = false := by simpa using hc
  have HS := Lib.hid hs
  have Hf := Lib.hid hf
  have HF := Lib.hid hF
  have HW := Lib.hid hw
  clear hs hf hF hw
  go_enter Try.func58, Try.ntmps58
  go_wp2_with fail
  (with_reducible refine (rosCheck_ev A l.length c l f1 f2 _ (HS.out.ext (by repeat (first | with_reducible exact Ext.refl _ | with_reducible refine Ext.drew ?_ | with_reducible refine Ext.drewN ?_ _ | with_reducible refine Ext.alloc ?_ _ | with_reducible refine Ext.setCell ?_ (by first | omega | (simp; done) | (simp; omega)) _))) HW.out Hf.out).mono ?_)
  rintro e w1 ⟨rfl, hx1⟩
  have z1 := hx1.size
  try simp at z1
  replace HS := Lib.hid (HS.out.ext (Ext.trans (by repeat (first | with_reducible exact Ext.refl _ | with_reducible refine Ext.drew ?_ | with_reducible refine Ext.drewN ?_ _ | with_reducible refine Ext.alloc ?_ _ | with_reducible refine Ext.setCell ?_ (by first | omega | (simp; done) | (simp; omega)) _)) hx1))
  have X1 : Hid (Ext w w1) := Lib.hid (Ext.trans (by repeat (first | with_reducible exact Ext.refl w | with_reducible refine Ext.drew ?_ | with_reducible refine Ext.drewN ?_ _ | with_reducible refine Ext.alloc ?_ _ | with_reducible refine Ext.setCell ?_ (by first | omega | (simp; done) | (simp; omega)) _)) hx1)
  clear hx1 z1
  by_cases h0 : v < 0
  · skip
    obtain ⟨q1, q2⟩ := Prod.mk.inj (HF.out.trans (show _ = (([] : List (Int × Int × Int × Int × Bool × Bool)), (10 : Int)) from by rw [unjV_out (by rw [← Hf.out]; exact hc) ho]))
    replace q2 := q2.symm
    subst q1
    subst q2
    go_wp2_with fail
    refine bodyPost_ret (v := .tuple #[.slice none 0 0, .int .i64 10]) (by simp [results, Try.results58, go_sem, World.cell?_alloc_past]; try rfl) rfl (RetV.nil (xs := [.int .i64 10]) ?_)
    exact (by repeat (first | with_reducible exact X1.out | with_reducible refine Ext.drew ?_ | with_reducible refine Ext.drewN ?_ _ | with_reducible refine Ext.alloc ?_ _ | with_reducible refine Ext.setCell ?_ (by first | omega | (simp; done) | (simp; omega)) _))
  · have h1 : v ≥ l.length := by omega
    obtain ⟨q1, q2⟩ := Prod.mk.inj (HF.out.trans (show _ = (([] : List (Int × Int × Int × Int × Bool × Bool)), (10 : Int)) from by rw [unjV_out (by rw [← Hf.out]; exact hc) ho]))
    replace q2 := q2.symm
    subst q1
    subst q2
    go_wp2_with fail
    refine bodyPost_ret (v := .tuple #[.slice none 0 0, .int .i64 10]) (by simp [results, Try.results58, go_sem, World.cell?_alloc_past]; try rfl) rfl (RetV.nil (xs := [.int .i64 10]) ?_)
    exact (by repeat (first | with_reducible exact X1.out | with_reducible refine Ext.drew ?_ | with_reducible refine Ext.drewN ?_ _ | with_reducible refine Ext.alloc ?_ _ | with_reducible refine Ext.setCell ?_ (by first | omega | (simp; done) | (simp; omega)) _))
set_option maxRecDepth 100000 in
set_option maxHeartbeats 2000000 in
theorem rosUnjail_in (A : Option Addr) (c : Nat) (l L : List (Int × Int × Int × Int × Bool × Bool)) (k : Nat) (x0 x1 x2 x3 : Int) (x4 x5 : Bool) (by_ h f1 f2 e : Int) (w : World) (hs : Sl w 6 A l.length c (l.flatMap valC)) (hw : ∀ x ∈ l, (Lit.int .i64 x.1).wf = true) (hnil : A = none → c = 0) (hf : (f1, f2) = chkV l) (hF : (L, e) = unjV l (k : Int) by_ h) (hc : f1 = 0) (hk : l[k]? = some (x0, x1, x2, x3, x4, x5)) (h32 : l.length ≤ 32) :
    Calls Try.prog 58 #[.slice A l.length c, .int .i64 (k : Int), .int .i64 by_, .int .i64 h] w (RetV L [.int .i64 e] w) := by
  have s1 := hs.small
  have e7 : (f1 != 0) = false := by simpa using hc
  have hk0 : ¬ (k : Int) < 0 := by omega
  have hk1 : ¬ (k : Int) ≥ l.length := by have := (List.getElem?_eq_some_iff.1 hk).1; omega
  have hk2 : (k : Int) < l.length := by omega
  have hV := hF.trans (unjV_at (by rw [← hf]; exact hc) hk)
  obtain ⟨b1, o1, rfl, hb1, hc1⟩ := hs.rec_ valC_len (show 0 < l.length from by have := (List.getElem?_eq_some_iff.1 hk).1; omega)
  have x_0 := hc1 k _ hk 0 _ rfl
  have x_1 := hc1 k _ hk 1 _ rfl
  have x_2 := hc1 k _ hk 2 _ rfl
  have x_3 := hc1 k _ hk 3 _ rfl
  have x_4 := hc1 k _ hk 4 _ rfl
  have x_5 := hc1 k _ hk 5 _ rfl
  simp only at x_0 x_1 x_2 x_3 x_4 x_5
  rw [Nat.add_zero] at x_0
  rw [← Nat.add_assoc] at x_1 x_2 x_3 x_4 x_5
  clear hc1 hF
  have HS := Lib.hid hs
  have HK := Lib.hid hk
  have Hf := Lib.hid hf
  have HF := Lib.hid hV
  clear hs hk hf hV
  have HW := Lib.hid hw
  clear hw
  obtain ⟨t, ht⟩ : ∃ t, t = decide (x2 ≠ 4) := ⟨_, rfl⟩
  obtain ⟨j, hj⟩ : ∃ j, j = decide (x2 = 3) := ⟨_, rfl⟩
  obtain ⟨f, hf⟩ : ∃ f, f = decide (x2 = 1 ∨ x2 = 2) := ⟨_, rfl⟩
  have Ht := Lib.hid ht
  have Hj := Lib.hid hj
  have Hff := Lib.hid hf
  clear ht hj hf
  go_enter Try.func58, Try.ntmps58
  go_wp2_with fail
  (with_reducible refine (rosCheck_ev (some ⟨b1, o1, none⟩) l.length c l f1 f2 _ (HS.out.ext (by repeat (first | with_reducible exact Ext.refl _ | with_reducible refine Ext.drew ?_ | with_reducible refine Ext.drewN ?_ _ | with_reducible refine Ext.alloc ?_ _ | with_reducible refine Ext.setCell ?_ (by first | omega | (simp; done) | (simp; omega)) _))) HW.out Hf.out).mono ?_)
  rintro e w1 ⟨rfl, hx1⟩
  replace x_0 : w1.cell? ⟨b1, o1 + k * 6, none⟩ = some (.int .i64 x0) := hx1.has (by first | exact x_0 | (simp [go_sem, World.cell?_alloc_past, x_0, x_1, x_2, x_3, x_4, x_5]; done))
  replace x_2 : w1.cell? ⟨b1, o1 + k * 6 + 2, none⟩ = some (.int .i64 x2) := hx1.has (by first | exact x_2 | (simp [go_sem, World.cell?_alloc_past, x_0, x_1, x_2, x_3, x_4, x_5]; done))
  replace x_3 : w1.cell? ⟨b1, o1 + k * 6 + 3, none⟩ = some (.int .i64 x3) := hx1.has (by first | exact x_3 | (simp [go_sem, World.cell?_alloc_past, x_0, x_1, x_2, x_3, x_4, x_5]; done))
  have z1 := hx1.size
  try simp at z1
  have rx : b1 < w1.heap.size := by omega
  have rxa : b1 < w1.heap.size + 1 := by omega
  have rxb : b1 < w1.heap.size + 1 + 1 := by omega
  have rxc : b1 < w1.heap.size + 1 + 1 + 1 := by omega
  have rxn : ¬ b1 = w1.heap.size := by omega
  replace HS := Lib.hid (HS.out.ext (Ext.trans (by repeat (first | with_reducible exact Ext.refl _ | with_reducible refine Ext.drew ?_ | with_reducible refine Ext.drewN ?_ _ | with_reducible refine Ext.alloc ?_ _ | with_reducible refine Ext.setCell ?_ (by first | omega | (simp; done) | (simp; omega)) _)) hx1))
  have X1 : Hid (Ext w w1) := Lib.hid (Ext.trans (by repeat (first | with_reducible exact Ext.refl w | with_reducible refine Ext.drew ?_ | with_reducible refine Ext.drewN ?_ _ | with_reducible refine Ext.alloc ?_ _ | with_reducible refine Ext.setCell ?_ (by first | omega | (simp; done) | (simp; omega)) _)) hx1)
  clear x_1 x_5 x_4 hx1 z1
  go_wp2_with fail
  (with_reducible refine (rosLets_ev x2 t j f _ Ht.out Hj.out Hff.out).mono ?_)
  rintro e w2 ⟨rfl, hx2⟩
  replace x_0 : w2.cell? ⟨b1, o1 + k * 6, none⟩ = some (.int .i64 x0) := hx2.has (by first | exact x_0 | (simp [go_sem, World.cell?_alloc_past, x_0, x_2, x_3, rx, rxa, rxb, rxc, rxn]; done))
  replace x_3 : w2.cell? ⟨b1, o1 + k * 6 + 3, none⟩ = some (.int .i64 x3) := hx2.has (by first | exact x_3 | (simp [go_sem, World.cell?_alloc_past, x_0, x_2, x_3, rx, rxa, rxb, rxc, rxn]; done))
  have z2 := hx2.size
  try simp at z2
  replace rx : b1 < w2.heap.size := by omega
  replace rxa : b1 < w2.heap.size + 1 := by omega
  replace rxb : b1 < w2.heap.size + 1 + 1 := by omega
  replace rxc : b1 < w2.heap.size + 1 + 1 + 1 := by omega
  replace rxn : ¬ b1 = w2.heap.size := by omega
  replace HS := Lib.hid (HS.out.ext (Ext.trans (by repeat (first | with_reducible exact Ext.refl _ | with_reducible refine Ext.drew ?_ | with_reducible refine Ext.drewN ?_ _ | with_reducible refine Ext.alloc ?_ _ | with_reducible refine Ext.setCell ?_ (by first | omega | (simp; done) | (simp; omega)) _)) hx2))
  have X2 : Hid (Ext w w2) := Lib.hid (Ext.trans (by repeat (first | with_reducible exact X1.out | with_reducible refine Ext.drew ?_ | with_reducible refine Ext.drewN ?_ _ | with_reducible refine Ext.alloc ?_ _ | with_reducible refine Ext.setCell ?_ (by first | omega | (simp; done) | (simp; omega)) _)) hx2)
  clear x_2 X1 hx2 z2
  by_cases h1 : by_ ≠ x0
  · have e_h1 : (by_ != x0) = true := by simpa using h1
    obtain ⟨q1, q2⟩ := Prod.mk.inj (HF.out.trans (show _ = (([] : List (Int × Int × Int × Int × Bool × Bool)), (24 : Int)) from by unfold unjX; dsimp only; rw [if_pos (show x0 ≠ by_ from by omega)]))
    replace q2 := q2.symm
    subst q1
    subst q2
    go_wp2_with fail
    refine bodyPost_ret (v := .tuple #[.slice none 0 0, .int .i64 24]) (by simp [results, Try.results58, go_sem, World.cell?_alloc_past, x_0, x_3, rx, rxa, rxb, rxc, rxn]; try rfl) rfl (RetV.nil (xs := [.int .i64 24]) ?_)
    exact (by repeat (first | with_reducible exact X2.out | with_reducible refine Ext.drew ?_ | with_reducible refine Ext.drewN ?_ _ | with_reducible refine Ext.alloc ?_ _ | with_reducible refine Ext.setCell ?_ (by first | omega | (simp; done) | (simp; omega)) _))
  · have e_h1 : (by_ != x0) = false := by simpa using h1
    by_cases ht : t = false
    · subst ht
      have h2 : x2 = 4 := by have := Ht.out; simpa using this
      have g1 := (show ¬ x0 ≠ by_ from by omega)
      obtain ⟨q1, q2⟩ := Prod.mk.inj (HF.out.trans (show _ = (([] : List (Int × Int × Int × Int × Bool × Bool)), (20 : Int)) from by unfold unjX; dsimp only; rw [if_neg g1, if_pos (by omega)]))
      replace q2 := q2.symm
      subst q1
      subst q2
      go_wp2_with fail
      refine bodyPost_ret (v := .tuple #[.slice none 0 0, .int .i64 20]) (by simp [results, Try.results58, go_sem, World.cell?_alloc_past, x_0, x_3, rx, rxa, rxb, rxc, rxn]; try rfl) rfl (RetV.nil (xs := [.int .i64 20]) ?_)
      exact (by repeat (first | with_reducible exact X2.out | with_reducible refine Ext.drew ?_ | with_reducible refine Ext.drewN ?_ _ | with_reducible refine Ext.alloc ?_ _ | with_reducible refine Ext.setCell ?_ (by first | omega | (simp; done) | (simp; omega)) _))
    · replace ht : t = true := by simpa using ht
      subst ht
      have h2 : x2 ≠ 4 := by have := Ht.out; simpa using this
      by_cases hj : j = false
      · subst hj
        have h3 : x2 ≠ 3 := by have := Hj.out; simpa using this
        have g1 := (show ¬ x0 ≠ by_ from by omega)
        obtain ⟨q1, q2⟩ := Prod.mk.inj (HF.out.trans (show _ = (([] : List (Int × Int × Int × Int × Bool × Bool)), (11 : Int)) from by unfold unjX; dsimp only; rw [if_neg g1, if_neg (by omega), if_pos (by omega)]))
        replace q2 := q2.symm
        subst q1
        subst q2
        go_wp2_with fail
        refine bodyPost_ret (v := .tuple #[.slice none 0 0, .int .i64 11]) (by simp [results, Try.results58, go_sem, World.cell?_alloc_past, x_0, x_3, rx, rxa, rxb, rxc, rxn]; try rfl) rfl (RetV.nil (xs := [.int .i64 11]) ?_)
        exact (by repeat (first | with_reducible exact X2.out | with_reducible refine Ext.drew ?_ | with_reducible refine Ext.drewN ?_ _ | with_reducible refine Ext.alloc ?_ _ | with_reducible refine Ext.setCell ?_ (by first | omega | (simp; done) | (simp; omega)) _))
      · replace hj : j = true := by simpa using hj
        subst hj
        have h3 : x2 = 3 := by have := Hj.out; simpa using this
        by_cases h4 : h < x3
        · skip
          have g1 := (show ¬ x0 ≠ by_ from by omega)
          obtain ⟨q1, q2⟩ := Prod.mk.inj (HF.out.trans (show _ = (([] : List (Int × Int × Int × Int × Bool × Bool)), (21 : Int)) from by unfold unjX; dsimp only; rw [if_neg g1, if_neg (by omega), if_neg (by omega), if_pos (by omega)]))
          replace q2 := q2.symm
          subst q1
          subst q2
          go_wp2_with fail
          refine bodyPost_ret (v := .tuple #[.slice none 0 0, .int .i64 21]) (by simp [results, Try.results58, go_sem, World.cell?_alloc_past, x_0, x_3, rx, rxa, rxb, rxc, rxn]; try rfl) rfl (RetV.nil (xs := [.int .i64 21]) ?_)
          exact (by repeat (first | with_reducible exact X2.out | with_reducible refine Ext.drew ?_ | with_reducible refine Ext.drewN ?_ _ | with_reducible refine Ext.alloc ?_ _ | with_reducible refine Ext.setCell ?_ (by first | omega | (simp; done) | (simp; omega)) _))
        · skip
          go_wp2_with fail
          have hrm := Ext.size X2.out
          (with_reducible refine (rosChangeUnjail (some ⟨b1, o1, none⟩) c k l x0 x1 x2 x3 x4 x5 _ (HS.out.ext (by repeat (first | with_reducible exact Ext.refl _ | with_reducible refine Ext.drew ?_ | with_reducible refine Ext.drewN ?_ _ | with_reducible refine Ext.alloc ?_ _ | with_reducible refine Ext.setCell ?_ (by first | omega | (simp; done) | (simp; omega)) _))) (by omega) hnil HK.out).mono ?_)
          rintro e w3 ⟨A5, c5, rfl, hA5, hO5, hx3⟩
          have z3 := hx3.size
          try simp at z3
          replace HS := Lib.hid (HS.out.ext (Ext.trans (by repeat (first | with_reducible exact Ext.refl _ | with_reducible refine Ext.drew ?_ | with_reducible refine Ext.drewN ?_ _ | with_reducible refine Ext.alloc ?_ _ | with_reducible refine Ext.setCell ?_ (by first | omega | (simp; done) | (simp; omega)) _)) hx3))
          have X3 : Hid (Ext w w3) := Lib.hid (Ext.trans (by repeat (first | with_reducible exact X2.out | with_reducible refine Ext.drew ?_ | with_reducible refine Ext.drewN ?_ _ | with_reducible refine Ext.alloc ?_ _ | with_reducible refine Ext.setCell ?_ (by first | omega | (simp; done) | (simp; omega)) _)) hx3)
          have HO := Lib.hid hO5
          clear x_3 x_0 rx rxa rxb rxc rxn X2 hx3 z3 hO5
          have g1 := (show ¬ x0 ≠ by_ from by omega)
          obtain ⟨q1, q2⟩ := Prod.mk.inj (HF.out.trans (show _ = (l.set k (x0, x1, 1, x3, x4, x5), 0) from by unfold unjX; dsimp only; rw [if_neg g1, if_neg (by omega), if_neg (by omega), if_neg (by omega)]; rfl))
          replace q2 := q2.symm
          subst q1
          subst q2
          have HO2 := Lib.hid (OwnVal.lower HO.out (show w.heap.size ≤ _ from by first | exact hrm | (simp; omega) | omega))
          go_wp2_with fail
          refine bodyPost_ret (v := .tuple #[.slice A5 (l.set k (x0, x1, 1, x3, x4, x5)).length c5, .int .i64 0]) (by simp [results, Try.results58]; try rfl) rfl (RetV.mk (xs := [.int .i64 0]) HO2.out (by repeat (first | with_reducible exact X3.out | with_reducible refine Ext.drew ?_ | with_reducible refine Ext.drewN ?_ _ | with_reducible refine Ext.alloc ?_ _ | with_reducible refine Ext.setCell ?_ (by first | omega | (simp; done) | (simp; omega)) _)) rfl)
theorem rosUnjail_ev (A : Option Addr) (c : Nat) (l L : List (Int × Int × Int × Int × Bool × Bool)) (v by_ h e : Int) (w : World) (hs : Sl w 6 A l.length c (l.flatMap valC)) (hw : ∀ x ∈ l, (Lit.int .i64 x.1).wf = true) (hnil : A = none → c = 0) (hF : (L, e) = unjV l v by_ h) :
    Calls Try.prog 58 #[.slice A l.length c, .int .i64 v, .int .i64 by_, .int .i64 h] w (RetV L [.int .i64 e] w) := by
  obtain ⟨⟨f1, f2⟩, hf⟩ : ∃ F, F = chkV l := ⟨_, rfl⟩
  by_cases hc : f1 = 0
  · by_cases ho : v < 0 ∨ v ≥ l.length
    · exact rosUnjail_out A c l L v by_ h f1 f2 e w hs hw hnil hf hF hc ho
    · obtain ⟨k, rfl⟩ : ∃ k : Nat, v = (k : Int) := ⟨v.toNat, by omega⟩
      have hk : k < l.length := by omega
      obtain ⟨⟨x0, x1, x2, x3, x4, x5⟩, hx⟩ : ∃ x, x = l[k] := ⟨_, rfl⟩
      exact rosUnjail_in A c l L k x0 x1 x2 x3 x4 x5 by_ h f1 f2 e w hs hw hnil hf hF hc (by rw [hx]; exact List.getElem?_eq_getElem hk) (chkV_zero (by rw [← hf]; exact hc)).2.1
  · exact rosUnjail_chk A c l L v by_ h f1 f2 e w hs hw hnil hf hF hc
set_option maxRecDepth 100000 in
set_option maxHeartbeats 2000000 in
theorem rUnjail16_chk (A : Option Addr) (c : Nat) (l L : List (Int × Int × Int × Int × Bool × Bool)) (v : Int) (by_ h f1 f2 e : Int) (w : World) (hs : Sl w 6 A l.length c (l.flatMap valC)) (hf : (f1, f2) = chkV l) (hF : (L, e) = unjV l v by_ h) (hc : f1 ≠ 0) :
    Calls Try.prog 59 #[.slice A l.length c, .int .i64 v, .int .i64 by_, .int .i64 h] w (RetV L [.int .i64 e] w) := by
  have s1 := hs.small
  have e7 : (f1 != 0) = true := by simpa using hc
  have HS := Lib.hid hs
  have Hf := Lib.hid hf
  have HF := Lib.hid hF
  clear hs hf hF
  go_enter Try.func59, Try.ntmps59
  go_wp2_with fail
  (with_reducible refine (rCheck16_ev A l.length c l f1 f2 _ (HS.out.ext (by repeat (first | with_reducible exact Ext.refl _ | with_reducible refine Ext.drew ?_ | with_reducible refine Ext.drewN ?_ _ | with_reducible refine Ext.alloc ?_ _ | with_reducible refine Ext.setCell ?_ (by first | omega | (simp; done) | (simp; omega)) _))) Hf.out).mono ?_)
  rintro e w1 ⟨rfl, hx1⟩
  have z1 := hx1.size
  try simp at z1
  replace HS := Lib.hid (HS.out.ext (Ext.trans (by repeat (first | with_reducible exact Ext.refl _ | with_reducible refine Ext.drew ?_ | with_reducible refine Ext.drewN ?_ _ | with_reducible refine Ext.alloc ?_ _ | with_reducible refine Ext.setCell ?_ (by first | omega | (simp; done) | (simp; omega)) _)) hx1))
  have X1 : Hid (Ext w w1) := Lib.hid (Ext.trans (by repeat (first | with_reducible exact Ext.refl w | with_reducible refine Ext.drew ?_ | with_reducible refine Ext.drewN ?_ _ | with_reducible refine Ext.alloc ?_ _ | with_reducible refine Ext.setCell ?_ (by first | omega | (simp; done) | (simp; omega)) _)) hx1)
  clear hx1 z1
  obtain ⟨q1, q2⟩ := Prod.mk.inj (HF.out.trans (show _ = (([] : List (Int × Int × Int × Int × Bool × Bool)), (f1 : Int)) from by rw [unjV_chk (by rw [← Hf.out]; exact hc), ← Hf.out]))
  replace q2 := q2.symm
  subst q1
  subst q2
  go_wp2_with fail
  refine bodyPost_ret (v := .tuple #[.slice none 0 0, .int .i64 f1]) (by simp [results, Try.results59, go_sem, World.cell?_alloc_past]; try rfl) rfl (RetV.nil (xs := [.int .i64 f1]) ?_)
  exact (by repeat (first | with_reducible exact X1.out | with_reducible refine Ext.drew ?_ | with_reducible refine Ext.drewN ?_ _ | with_reducible refine Ext.alloc ?_ _ | with_reducible refine Ext.setCell ?_ (by first | omega | (simp; done) | (simp; omega)) _))
set_option maxRecDepth 100000 in
set_option maxHeartbeats 2000000 in
theorem rUnjail16_out (A : Option Addr) (c : Nat) (l L : List (Int × Int × Int × Int × Bool × Bool)) (v : Int) (by_ h f1 f2 e : Int) (w : World) (hs : Sl w 6 A l.length c (l.flatMap valC)) (hf : (f1, f2) = chkV l) (hF : (L, e) = unjV l v by_ h) (hc : f1 = 0) (ho : v < 0 ∨ v ≥ l.length) :
    Calls Try.prog 59 #[.slice A l.length c, .int .i64 v, .int .i64 by_, .int .i64 h] w (RetV L [.int .i64 e] w) := by
  have s1 := hs.small
  have e7 : (f1 != 0) = false := by simpa using hc
  have HS := Lib.hid hs
  have Hf := Lib.hid hf
  have HF := Lib.hid hF
  clear hs hf hF
  go_enter Try.func59, Try.ntmps59
  go_wp2_with fail
  (with_reducible refine (rCheck16_ev A l.length c l f1 f2 _ (HS.out.ext (by repeat (first | with_reducible exact Ext.refl _ | with_reducible refine Ext.drew ?_ | with_reducible refine Ext.drewN ?_ _ | with_reducible refine Ext.alloc ?_ _ | with_reducible refine Ext.setCell ?_ (by first | omega | (simp; done) | (simp; omega)) _))) Hf.out).mono ?_)
  rintro e w1 ⟨rfl, hx1⟩
  have z1 := hx1.size
  try simp at z1
  replace HS := Lib.hid (HS.out.ext (Ext.trans (by repeat (first | with_reducible exact Ext.refl _ | with_reducible refine Ext.drew ?_ | with_reducible refine Ext.drewN ?_ _ | with_reducible refine Ext.alloc ?_ _ | with_reducible refine Ext.setCell ?_ (by first | omega | (simp; done) | (simp; omega)) _)) hx1))
  have X1 : Hid (Ext w w1) := Lib.hid (Ext.trans (by repeat (first | with_reducible exact Ext.refl w | with_reducible refine Ext.drew ?_ | with_reducible refine Ext.drewN ?_ _ | with_reducible refine Ext.alloc ?_ _ | with_reducible refine Ext.setCell ?_ (by first | omega | (simp; done) | (simp; omega)) _)) hx1)
  clear hx1 z1
  by_cases h0 : v < 0
  · skip
    obtain ⟨q1, q2⟩ := Prod.mk.inj (HF.out.trans (show _ = (([] : List (Int × Int × Int × Int × Bool × Bool)), (10 : Int)) from by rw [unjV_out (by rw [← Hf.out]; exact hc) ho]))
    replace q2 := q2.symm
    subst q1
    subst q2
    go_wp2_with fail
    refine bodyPost_ret (v := .tuple #[.slice none 0 0, .int .i64 10]) (by simp [results, Try.results59, go_sem, World.cell?_alloc_past]; try rfl) rfl (RetV.nil (xs := [.int .i64 10]) ?_)
    exact (by repeat (first | with_reducible exact X1.out | with_reducible refine Ext.drew ?_ | with_reducible refine Ext.drewN ?_ _ | with_reducible refine Ext.alloc ?_ _ | with_reducible refine Ext.setCell ?_ (by first | omega | (simp; done) | (simp; omega)) _))
  · have h1 : v ≥ l.length := by omega
    obtain ⟨q1, q2⟩ := Prod.mk.inj (HF.out.trans (show _ = (([] : List (Int × Int × Int × Int × Bool × Bool)), (10 : Int)) from by rw [unjV_out (by rw [← Hf.out]; exact hc) ho]))
    replace q2 := q2.symm
    subst q1
    subst q2
    go_wp2_with fail
    refine bodyPost_ret (v := .tuple #[.slice none 0 0, .int .i64 10]) (by simp [results, Try.results59, go_sem, World.cell?_alloc_past]; try rfl) rfl (RetV.nil (xs := [.int .i64 10]) ?_)
    exact (by repeat (first | with_reducible exact X1.out | with_reducible refine Ext.drew ?_ | with_reducible refine Ext.drewN ?_ _ | with_reducible refine Ext.alloc ?_ _ | with_reducible refine Ext.setCell ?_ (by first | omega | (simp; done) | (simp; omega)) _))
set_option maxRecDepth 100000 in
set_option maxHeartbeats 2000000 in
theorem rUnjail16_in (A : Option Addr) (c : Nat) (l L : List (Int × Int × Int × Int × Bool × Bool)) (k : Nat) (x0 x1 x2 x3 : Int) (x4 x5 : Bool) (by_ h f1 f2 e : Int) (w : World) (hs : Sl w 6 A l.length c (l.flatMap valC)) (hf : (f1, f2) = chkV l) (hF : (L, e) = unjV l (k : Int) by_ h) (hc : f1 = 0) (hk : l[k]? = some (x0, x1, x2, x3, x4, x5)) (h32 : l.length ≤ 32) :
    Calls Try.prog 59 #[.slice A l.length c, .int .i64 (k : Int), .int .i64 by_, .int .i64 h] w (RetV L [.int .i64 e] w) := by
  have s1 := hs.small
  have e7 : (f1 != 0) = false := by simpa using hc
  have hk0 : ¬ (k : Int) < 0 := by omega
  have hk1 : ¬ (k : Int) ≥ l.length := by have := (List.getElem?_eq_some_iff.1 hk).1; omega
  have hk2 : (k : Int) < l.length := by omega
  have hV := hF.trans (unjV_at (by rw [← hf]; exact hc) hk)
  obtain ⟨b1, o1, rfl, hb1, hc1⟩ := hs.rec_ valC_len (show 0 < l.length from by have := (List.getElem?_eq_some_iff.1 hk).1; omega)
  have x_0 := hc1 k _ hk 0 _ rfl
  have x_1 := hc1 k _ hk 1 _ rfl
  have x_2 := hc1 k _ hk 2 _ rfl
  have x_3 := hc1 k _ hk 3 _ rfl
  have x_4 := hc1 k _ hk 4 _ rfl
  have x_5 := hc1 k _ hk 5 _ rfl
  simp only at x_0 x_1 x_2 x_3 x_4 x_5
  rw [Nat.add_zero] at x_0
  rw [← Nat.add_assoc] at x_1 x_2 x_3 x_4 x_5
  clear hc1 hF
  have HS := Lib.hid hs
  have HK := Lib.hid hk
  have Hf := Lib.hid hf
  have HF := Lib.hid hV
  clear hs hk hf hV
  go_enter Try.func59, Try.ntmps59
  go_wp2_with fail
  (with_reducible refine (rCheck16_ev (some ⟨b1, o1, none⟩) l.length c l f1 f2 _ (HS.out.ext (by repeat (first | with_reducible exact Ext.refl _ | with_reducible refine Ext.drew ?_ | with_reducible refine Ext.drewN ?_ _ | with_reducible refine Ext.alloc ?_ _ | with_reducible refine Ext.setCell ?_ (by first | omega | (simp; done) | (simp; omega)) _))) Hf.out).mono ?_)
  rintro e w1 ⟨rfl, hx1⟩
  replace x_0 : w1.cell? ⟨b1, o1 + k * 6, none⟩ = some (.int .i64 x0) := hx1.has (by first | exact x_0 | (simp [go_sem, World.cell?_alloc_past, x_0, x_1, x_2, x_3, x_4, x_5]; done))
  replace x_2 : w1.cell? ⟨b1, o1 + k * 6 + 2, none⟩ = some (.int .i64 x2) := hx1.has (by first | exact x_2 | (simp [go_sem, World.cell?_alloc_past, x_0, x_1, x_2, x_3, x_4, x_5]; done))
  replace x_3 : w1.cell? ⟨b1, o1 + k * 6 + 3, none⟩ = some (.int .i64 x3) := hx1.has (by first | exact x_3 | (simp [go_sem, World.cell?_alloc_past, x_0, x_1, x_2, x_3, x_4, x_5]; done))
  have z1 := hx1.size
  try simp at z1
  have rx : b1 < w1.heap.size := by omega
  have rxa : b1 < w1.heap.size + 1 := by omega
  have rxb : b1 < w1.heap.size + 1 + 1 := by omega
  have rxc : b1 < w1.heap.size + 1 + 1 + 1 := by omega
  have rxn : ¬ b1 = w1.heap.size := by omega
  replace HS := Lib.hid (HS.out.ext (Ext.trans (by repeat (first | with_reducible exact Ext.refl _ | with_reducible refine Ext.drew ?_ | with_reducible refine Ext.drewN ?_ _ | with_reducible refine Ext.alloc ?_ _ | with_reducible refine Ext.setCell ?_ (by first | omega | (simp; done) | (simp; omega)) _)) hx1))
  have X1 : Hid (Ext w w1) := Lib.hid (Ext.trans (by repeat (first | with_reducible exact Ext.refl w | with_reducible refine Ext.drew ?_ | with_reducible refine Ext.drewN ?_ _ | with_reducible refine Ext.alloc ?_ _ | with_reducible refine Ext.setCell ?_ (by first | omega | (simp; done) | (simp; omega)) _)) hx1)
  clear x_1 x_5 x_4 hx1 z1
  by_cases h1 : x0 ≠ by_
  · have e_h1 : (x0 != by_) = true := by simpa using h1
    obtain ⟨q1, q2⟩ := Prod.mk.inj (HF.out.trans (show _ = (([] : List (Int × Int × Int × Int × Bool × Bool)), (24 : Int)) from by unfold unjX; dsimp only; rw [if_pos (show x0 ≠ by_ from by omega)]))
    replace q2 := q2.symm
    subst q1
    subst q2
    go_wp2_with fail
    refine bodyPost_ret (v := .tuple #[.slice none 0 0, .int .i64 24]) (by simp [results, Try.results59, go_sem, World.cell?_alloc_past, x_0, x_2, x_3, rx, rxa, rxb, rxc, rxn]; try rfl) rfl (RetV.nil (xs := [.int .i64 24]) ?_)
    exact (by repeat (first | with_reducible exact X1.out | with_reducible refine Ext.drew ?_ | with_reducible refine Ext.drewN ?_ _ | with_reducible refine Ext.alloc ?_ _ | with_reducible refine Ext.setCell ?_ (by first | omega | (simp; done) | (simp; omega)) _))
  · have e_h1 : (x0 != by_) = false := by simpa using h1
    by_cases h2 : x2 = 4
    · have e_h2 : (x2 == 4) = true := by simpa using h2
      have g1 := (show ¬ x0 ≠ by_ from by omega)
      obtain ⟨q1, q2⟩ := Prod.mk.inj (HF.out.trans (show _ = (([] : List (Int × Int × Int × Int × Bool × Bool)), (20 : Int)) from by unfold unjX; dsimp only; rw [if_neg g1, if_pos (by omega)]))
      replace q2 := q2.symm
      subst q1
      subst q2
      go_wp2_with fail
      refine bodyPost_ret (v := .tuple #[.slice none 0 0, .int .i64 20]) (by simp [results, Try.results59, go_sem, World.cell?_alloc_past, x_0, x_2, x_3, rx, rxa, rxb, rxc, rxn]; try rfl) rfl (RetV.nil (xs := [.int .i64 20]) ?_)
      exact (by repeat (first | with_reducible exact X1.out | with_reducible refine Ext.drew ?_ | with_reducible refine Ext.drewN ?_ _ | with_reducible refine Ext.alloc ?_ _ | with_reducible refine Ext.setCell ?_ (by first | omega | (simp; done) | (simp; omega)) _))
    · have e_h2 : (x2 == 4) = false := by simpa using h2
      by_cases h3 : x2 ≠ 3
      · have e_h3 : (x2 != 3) = true := by simpa using h3
        have g1 := (show ¬ x0 ≠ by_ from by omega)
        obtain ⟨q1, q2⟩ := Prod.mk.inj (HF.out.trans (show _ = (([] : List (Int × Int × Int × Int × Bool × Bool)), (11 : Int)) from by unfold unjX; dsimp only; rw [if_neg g1, if_neg (by omega), if_pos (by omega)]))
        replace q2 := q2.symm
        subst q1
        subst q2
        go_wp2_with fail
        refine bodyPost_ret (v := .tuple #[.slice none 0 0, .int .i64 11]) (by simp [results, Try.results59, go_sem, World.cell?_alloc_past, x_0, x_2, x_3, rx, rxa, rxb, rxc, rxn]; try rfl) rfl (RetV.nil (xs := [.int .i64 11]) ?_)
        exact (by repeat (first | with_reducible exact X1.out | with_reducible refine Ext.drew ?_ | with_reducible refine Ext.drewN ?_ _ | with_reducible refine Ext.alloc ?_ _ | with_reducible refine Ext.setCell ?_ (by first | omega | (simp; done) | (simp; omega)) _))
      · have e_h3 : (x2 != 3) = false := by simpa using h3
        by_cases h4 : h < x3
        · skip
          have g1 := (show ¬ x0 ≠ by_ from by omega)
          obtain ⟨q1, q2⟩ := Prod.mk.inj (HF.out.trans (show _ = (([] : List (Int × Int × Int × Int × Bool × Bool)), (21 : Int)) from by unfold unjX; dsimp only; rw [if_neg g1, if_neg (by omega), if_neg (by omega), if_pos (by omega)]))
          replace q2 := q2.symm
          subst q1
          subst q2
          go_wp2_with fail
          refine bodyPost_ret (v := .tuple #[.slice none 0 0, .int .i64 21]) (by simp [results, Try.results59, go_sem, World.cell?_alloc_past, x_0, x_2, x_3, rx, rxa, rxb, rxc, rxn]; try rfl) rfl (RetV.nil (xs := [.int .i64 21]) ?_)
          exact (by repeat (first | with_reducible exact X1.out | with_reducible refine Ext.drew ?_ | with_reducible refine Ext.drewN ?_ _ | with_reducible refine Ext.alloc ?_ _ | with_reducible refine Ext.setCell ?_ (by first | omega | (simp; done) | (simp; omega)) _))
        · skip
          go_wp2_with fail
          have hrm := Ext.size X1.out
          (with_reducible refine (kCopyVals_any (some ⟨b1, o1, none⟩) c l _ (HS.out.ext (by repeat (first | with_reducible exact Ext.refl _ | with_reducible refine Ext.drew ?_ | with_reducible refine Ext.drewN ?_ _ | with_reducible refine Ext.alloc ?_ _ | with_reducible refine Ext.setCell ?_ (by first | omega | (simp; done) | (simp; omega)) _))) (by omega)).mono ?_)
          rintro e w2 ⟨A1, c1, rfl, hn1, hO1, hx2⟩
          have z2 := hx2.size
          try simp at z2
          replace HS := Lib.hid (HS.out.ext (Ext.trans (by repeat (first | with_reducible exact Ext.refl _ | with_reducible refine Ext.drew ?_ | with_reducible refine Ext.drewN ?_ _ | with_reducible refine Ext.alloc ?_ _ | with_reducible refine Ext.setCell ?_ (by first | omega | (simp; done) | (simp; omega)) _)) hx2))
          have X2 : Hid (Ext w w2) := Lib.hid (Ext.trans (by repeat (first | with_reducible exact X1.out | with_reducible refine Ext.drew ?_ | with_reducible refine Ext.drewN ?_ _ | with_reducible refine Ext.alloc ?_ _ | with_reducible refine Ext.setCell ?_ (by first | omega | (simp; done) | (simp; omega)) _)) hx2)
          have HO := Lib.hid (show OwnVal _ _ _ _ _ from hO1)
          clear x_2 x_3 x_0 rx rxa rxb rxc rxn X1 hx2 z2
          rcases HO.out.2 with ⟨_, h0⟩ | ⟨g, cap, cur, h', hbg, _⟩
          · have := (List.getElem?_eq_some_iff.1 HK.out).1; omega
          injection h' with q1 q2 q3
          subst q1; subst q3
          have HC : Hid (Cur 96 valC 6 _ _ g l.length c1 l k (x0, x1, x2, x3, x4, x5)) := Lib.hid (Cur.mk HO.out HK.out rfl)
          have z_2 := Cur.cell valC_len HC.out (j := 2) rfl
          have z_2f := Cur.froz HC.out 2
          clear HO hn1 hO1
          have g1 := (show ¬ x0 ≠ by_ from by omega)
          obtain ⟨q1, q2⟩ := Prod.mk.inj (HF.out.trans (show _ = (l.set k (x0, x1, 1, x3, x4, x5), 0) from by unfold unjX; dsimp only; rw [if_neg g1, if_neg (by omega), if_neg (by omega), if_neg (by omega)]; rfl))
          replace q2 := q2.symm
          subst q1
          subst q2
          go_wp2_with fail
          refine bodyPost_ret (v := .tuple #[.slice (some ⟨g, 0, none⟩) l.length c1, .int .i64 0]) (by simp [results, Try.results59]; try rfl) rfl ?_
          exact RetV.cur (xs := [.int .i64 0]) (Cur.put valC_len HC.out 2 (.int .i64 1) (x0, x1, 1, x3, x4, x5) (by decide) rfl) (by first | exact hrm | (simp; omega) | omega) (by repeat (first | with_reducible exact X2.out | with_reducible refine Ext.drew ?_ | with_reducible refine Ext.drewN ?_ _ | with_reducible refine Ext.alloc ?_ _ | with_reducible refine Ext.setCell ?_ (by first | omega | (simp; done) | (simp; omega)) _))
theorem rUnjail16_ev (A : Option Addr) (c : Nat) (l L : List (Int × Int × Int × Int × Bool × Bool)) (v by_ h e : Int) (w : World) (hs : Sl w 6 A l.length c (l.flatMap valC)) (hF : (L, e) = unjV l v by_ h) :
    Calls Try.prog 59 #[.slice A l.length c, .int .i64 v, .int .i64 by_, .int .i64 h] w (RetV L [.int .i64 e] w) := by
  obtain ⟨⟨f1, f2⟩, hf⟩ : ∃ F, F = chkV l := ⟨_, rfl⟩
  by_cases hc : f1 = 0
  · by_cases ho : v < 0 ∨ v ≥ l.length
    · exact rUnjail16_out A c l L v by_ h f1 f2 e w hs hf hF hc ho
    · obtain ⟨k, rfl⟩ : ∃ k : Nat, v = (k : Int) := ⟨v.toNat, by omega⟩
      have hk : k < l.length := by omega
      obtain ⟨⟨x0, x1, x2, x3, x4, x5⟩, hx⟩ : ∃ x, x = l[k] := ⟨_, rfl⟩
      exact rUnjail16_in A c l L k x0 x1 x2 x3 x4 x5 by_ h f1 f2 e w hs hf hF hc (by rw [hx]; exact List.getElem?_eq_getElem hk) (chkV_zero (by rw [← hf]; exact hc)).2.1
  · exact rUnjail16_chk A c l L v by_ h f1 f2 e w hs hf hF hc
end Go.Proofs.Ytjdpgapmdmpjjaa
