/- Lists of hops as bytes, read back: what is written is read, what is read was written. Conditions stand in each lemma. -/
import Derived.Test.YtjdpgapmdmpjjaaHop14
set_option linter.unusedVariables false
set_option linter.unusedSimpArgs false
namespace Go.Proofs.Ytjdpgapmdmpjjaa
open Go.RowKit

theorem take_putH {L p rest : List Nat} {k : Nat} (h : L.drop k = p ++ rest) : L.take (k + p.length) = L.take k ++ p ∧ L.drop (k + p.length) = rest := by
  refine ⟨?_, ?_⟩
  · rw [List.take_add, h, List.take_left]
  · rw [← List.drop_drop, h, List.drop_left]
theorem hopB4 (x : Int × Int × Int × Int) : hopB x = putL x.1.toNat ++ (putL x.2.1.toNat ++ (putL x.2.2.1.toNat ++ putL x.2.2.2.toNat)) := by
  unfold hopB numB hopN
  simp
theorem mayV_iff {x : Int × Int × Int × Int} {out : List (Int × Int × Int × Int)} : mayV x out = 0 ↔ MayH x ∧ ordB out x.2.2.2 = false := by
  constructor
  · intro h
    have hm := mayV_may h
    refine ⟨hm, ?_⟩
    unfold mayV at h
    rw [if_neg (by simpa using hm)] at h
    unfold ordB
    split at h
    · rename_i y hy
      rw [hy]
      split at h
      · cases h
      · rename_i h2
        simpa using h2
    · rename_i hy
      rw [hy]
  · rintro ⟨hm, ho⟩
    unfold mayV
    rw [if_neg (by simpa using hm)]
    unfold ordB at ho
    split
    · rename_i y hy
      rw [hy] at ho
      rw [if_neg (by simpa using ho)]
    · rfl
/-- one hop that was written is read -/
theorem hopRd1_put {L rest : List Nat} {k : Nat} {out : List (Int × Int × Int × Int)} {x : Int × Int × Int × Int} (hL : L.drop k = hopB x ++ rest) (h : mayV x out = 0) : hopRd1 L (k, none, out) = (k + (hopB x).length, none, out ++ [x]) := by
  obtain ⟨⟨h1, h2, h3, h0, h4⟩, ho⟩ := mayV_iff.1 h
  obtain ⟨x0, x1, x2, x3⟩ := x
  simp only at h0 h1 h2 h3 h4 ho
  rw [hopB4] at hL
  simp only [List.append_assoc] at hL
  obtain ⟨v1, k1, f1⟩ := rn_put (lo := 0) (hi := 63) hL (by omega) (by omega) (by omega)
  have d1 := (take_putH hL).2
  obtain ⟨v2, k2, f2⟩ := rn_put (lo := 0) (hi := 31) d1 (by omega) (by omega) (by omega)
  have d2 := (take_putH d1).2
  obtain ⟨v3, k3, f3⟩ := rn_put (lo := 0) (hi := 31) d2 (by omega) (by omega) (by omega)
  have d3 := (take_putH d2).2
  obtain ⟨v4, k4, f4⟩ := rn_put (lo := 1) (hi := 4294967296) d3 (by omega) (by omega) (by omega)
  have e0 : ((x0.toNat : Nat) : Int) = x0 := Int.toNat_of_nonneg (by omega)
  have e1 : ((x1.toNat : Nat) : Int) = x1 := Int.toNat_of_nonneg (by omega)
  have e2 : ((x2.toNat : Nat) : Int) = x2 := Int.toNat_of_nonneg (by omega)
  have e3 : ((x3.toNat : Nat) : Int) = x3 := Int.toNat_of_nonneg (by omega)
  have hne : ¬ x2 = x1 := fun h => h3 h.symm
  refine (hopRd1_eq (f := none) (f1 := none) (f2 := none) (f3 := none) (f4 := none) (f5 := none) (f6 := none) (k1 := k + (putL x0.toNat).length) (k2 := k + (putL x0.toNat).length + (putL x1.toNat).length) (k3 := k + (putL x0.toNat).length + (putL x1.toNat).length + (putL x2.toNat).length) (k5 := k + (putL x0.toNat).length + (putL x1.toNat).length + (putL x2.toNat).length + (putL x3.toNat).length) rfl (x0 := x0) (x1 := x1) (x2 := x2) (x3 := x3)
    (by rw [v1, e0]) k1.symm f1.symm (by rw [v2, e1]) k2.symm f2.symm (by rw [v3, e2]) k3.symm f3.symm (by rw [if_neg hne]) (by rw [v4, e3]) k4.symm f4.symm (by rw [ho]; rfl)).trans ?_
  rw [hopB4]
  simp only [List.length_append, Prod.mk.injEq, and_true]
  omega
theorem hopRd_put {l : List (Int × Int × Int × Int)} (hc : (chkH l).1 = 0) : ∀ j, j ≤ l.length → hopRd (lstB l) (hopS0 (lstB l)) j = ((putL l.length ++ (l.take j).flatMap hopB).length, none, l.take j)
  | 0, _ => by
    obtain ⟨_, h32, _⟩ := chkH_zero hc
    have hB : lstB l = putL l.length ++ l.flatMap hopB := by unfold lstB; exact if_pos hc
    obtain ⟨v, k, f⟩ := rn_put (L := lstB l) (k := 0) (lo := 0) (hi := 4096) (by rw [List.drop_zero]; exact hB) (by omega) (by omega) (by omega)
    show hopS0 (lstB l) = _
    unfold hopS0
    rw [k, f]
    simp
  | j + 1, hj => by
    obtain ⟨_, h32, hbad⟩ := chkH_zero hc
    have hB : lstB l = putL l.length ++ l.flatMap hopB := by unfold lstB; exact if_pos hc
    have hlt : j < l.length := by omega
    have hx := List.getElem?_eq_getElem hlt
    rw [hopRd, hopRd_put hc j (by omega)]
    have hd : (lstB l).drop (putL l.length ++ (l.take j).flatMap hopB).length = hopB l[j] ++ (l.drop (j + 1)).flatMap hopB := by
      have e : lstB l = (putL l.length ++ (l.take j).flatMap hopB) ++ (hopB l[j] ++ (l.drop (j + 1)).flatMap hopB) := by
        have e1 : l = l.take j ++ l[j] :: l.drop (j + 1) := by rw [← List.drop_eq_getElem_cons hlt, List.take_append_drop]
        have e2 : l.flatMap hopB = (l.take j).flatMap hopB ++ (hopB l[j] ++ (l.drop (j + 1)).flatMap hopB) := by
          conv => lhs; rw [e1]
          rw [List.flatMap_append, List.flatMap_cons]
        rw [hB, e2, List.append_assoc]
      rw [e, List.drop_left]
    rw [hopRd1_put hd (hbad j _ hx), List.take_succ_eq_append_getElem hlt]
    refine Prod.ext ?_ rfl
    simp only [List.flatMap_append, List.flatMap_cons, List.flatMap_nil, List.append_nil, List.length_append]
    omega
/-- what was written is read -/
theorem hopRV_put {l : List (Int × Int × Int × Int)} (hc : (chkH l).1 = 0) : hopRV (lstB l) = (l, 0, 0) := by
  obtain ⟨_, h32, _⟩ := chkH_zero hc
  have hB : lstB l = putL l.length ++ l.flatMap hopB := by unfold lstB; exact if_pos hc
  obtain ⟨v, _, _⟩ := rn_put (L := lstB l) (k := 0) (lo := 0) (hi := 4096) (by rw [List.drop_zero]; exact hB) (by omega) (by omega) (by omega)
  unfold hopRV
  rw [v, show ((l.length : Nat) : Int).toNat = l.length from by simp, hopRd_put hc l.length (Nat.le_refl _), List.take_length, ← hB]
  unfold hopEnd endF
  simp
/-- one hop that was read -/
theorem hopRd1_back {L : List Nat} (hB : Byt L) {k : Nat} {out : List (Int × Int × Int × Int)} (h : (hopRd1 L (k, none, out)).2.1 = none) : ∃ x : Int × Int × Int × Int, hopRd1 L (k, none, out) = (k + (hopB x).length, none, out ++ [x]) ∧ L.take (k + (hopB x).length) = L.take k ++ hopB x ∧ mayV x out = 0 := by
  unfold hopRd1 at h
  simp only at h
  obtain ⟨g5, hord⟩ := ifFail_none (by decide) h
  have g4 := rnF_none g5
  obtain ⟨g3, hne⟩ := ifFail_none (by decide) g4
  have g2 := rnF_none g3
  have g1 := rnF_none g2
  obtain ⟨m1, r1, d1, v1, k1, b1, c1⟩ := rn_back hB (by decide) g1
  rw [g1, k1] at g2 g3 g4 g5 hord hne
  obtain ⟨m2, r2, d2, v2, k2, b2, c2⟩ := rn_back hB (by decide) g2
  rw [g2, k2] at g3 g4 g5 hord hne
  obtain ⟨m3, r3, d3, v3, k3, b3, c3⟩ := rn_back hB (by decide) g3
  rw [v2, v3] at hne
  rw [g3, k3, v2, v3, if_neg hne] at g5 hord
  obtain ⟨m4, r4, d4, v4, k4, b4, c4⟩ := rn_back hB (by decide) g5
  rw [v4] at hord
  have ho : ordB out (m4 : Int) = false := by
    cases hh : ordB out (m4 : Int) with
    | false => rfl
    | true => exact absurd hh hord
  have hvb : hopB ((m1 : Int), (m2 : Int), (m3 : Int), (m4 : Int)) = putL m1 ++ (putL m2 ++ (putL m3 ++ putL m4)) := by rw [hopB4]; simp
  have hlen : (hopB ((m1 : Int), (m2 : Int), (m3 : Int), (m4 : Int))).length = (putL m1).length + ((putL m2).length + ((putL m3).length + (putL m4).length)) := by rw [hvb]; simp only [List.length_append]
  have hmay : mayV ((m1 : Int), (m2 : Int), (m3 : Int), (m4 : Int)) out = 0 := by
    refine mayV_iff.2 ⟨⟨⟨?_, ?_⟩, ⟨?_, ?_⟩, fun h => hne h.symm, ⟨?_, ?_⟩, ?_, ?_⟩, ho⟩ <;> dsimp only <;> omega
  refine ⟨((m1 : Int), (m2 : Int), (m3 : Int), (m4 : Int)), ?_, ?_, hmay⟩
  · refine (hopRd1_eq (f := none) (f1 := none) (f2 := none) (f3 := none) (f4 := none) (f5 := none) (f6 := none) rfl v1.symm k1.symm g1.symm v2.symm k2.symm g2.symm v3.symm k3.symm g3.symm (by rw [if_neg hne]) v4.symm k4.symm g5.symm (by rw [ho]; rfl)).trans ?_
    rw [hlen]
    simp only [Prod.mk.injEq, and_true]
    omega
  · have t1 := (take_putH d1).1
    have t2 := (take_putH d2).1
    have t3 := (take_putH d3).1
    have t4 := (take_putH d4).1
    rw [t3, t2, t1] at t4
    rw [hlen, show k + ((putL m1).length + ((putL m2).length + ((putL m3).length + (putL m4).length))) = k + (putL m1).length + (putL m2).length + (putL m3).length + (putL m4).length from by omega, t4, hvb]
    simp only [List.append_assoc]
theorem badH_old {out : List (Int × Int × Int × Int)} {x : Int × Int × Int × Int} {i : Nat} (hi : i < out.length) : badH (out ++ [x]) i = badH out i := by
  unfold badH
  rw [List.getElem?_append_left hi, List.take_append_of_le_length (by omega)]
theorem badH_new {out : List (Int × Int × Int × Int)} {x : Int × Int × Int × Int} : badH (out ++ [x]) out.length = mayV x out := by
  unfold badH
  rw [List.getElem?_append_right (Nat.le_refl _), Nat.sub_self, List.take_left']
  · rfl
  · rfl
theorem hopRd_back {L : List Nat} (hB : Byt L) : ∀ j, (hopRd L (hopS0 L) j).2.1 = none → ∃ k out, hopRd L (hopS0 L) j = (k, none, out) ∧ L.take k = putL (rnV L 0 none 0 4096).toNat ++ out.flatMap hopB ∧ out.length = j ∧ (∀ i, i < j → badH out i = 0)
  | 0, h => by
    have h' : rnF L 0 none 0 4096 = none := h
    obtain ⟨m, rest, d, v, k, _, _⟩ := rn_back hB (by decide) h'
    refine ⟨rnK L 0 none 0 4096, [], ?_, ?_, rfl, fun i hi => absurd hi (by omega)⟩
    · show hopS0 L = _
      unfold hopS0
      rw [h']
    · rw [k, v, (take_putH d).1]
      simp
  | j + 1, h => by
    have h1 : (hopRd L (hopS0 L) j).2.1 = none := by
      cases hf : (hopRd L (hopS0 L) j).2.1 with
      | none => rfl
      | some x => rw [hopRd, hopRd1_some hf] at h; cases h
    obtain ⟨k, out, e, ht, hl, hb⟩ := hopRd_back hB j h1
    rw [hopRd, e] at h
    obtain ⟨x, e2, ht2, hev⟩ := hopRd1_back hB h
    refine ⟨_, _, by rw [hopRd, e, e2], ?_, by simp [hl], ?_⟩
    · rw [ht2, ht, List.flatMap_append]
      simp
    · intro i hi
      rcases Nat.lt_or_ge i j with hij | hij
      · rw [badH_old (by omega)]
        exact hb i hij
      · have : i = out.length := by omega
        subst this
        rw [badH_new]
        exact hev
theorem may_fits {x : Int × Int × Int × Int} (h : MayH x) : FitsH x := by
  obtain ⟨h1, h2, _, h3, h4⟩ := h
  have hb : ∀ y : Int, 0 ≤ y → y ≤ 4294967296 → Fits .i64 y := by
    intro y h0 h1
    unfold Fits
    simp [Lit.wf, IntKind.min, IntKind.max, IntKind.bits, IntKind.signed]
    omega
  exact ⟨hb _ (by omega) (by omega), hb _ (by omega) (by omega), hb _ (by omega) (by omega), hb _ (by omega) (by omega)⟩
/-- what is read was written -/
theorem hopRV_back {L : List Nat} (hB : Byt L) (h : (hopRV L).2.1 = 0) : (chkH (hopRV L).1).1 = 0 ∧ lstB (hopRV L).1 = L ∧ (hopRV L).2.2 = 0 := by
  have hn := rnV_in L 0 none 0 4096 (by decide)
  have hz : FltNz (hopRd L (hopS0 L) (rnV L 0 none 0 4096).toNat).2.1 := hopRd_nz (hopS0_nz L) _
  have hE : (endF (hopRd L (hopS0 L) (rnV L 0 none 0 4096).toNat).2.1 (hopRd L (hopS0 L) (rnV L 0 none 0 4096).toNat).1 L.length).1 = 0 := by
    unfold hopRV hopEnd at h
    split at h
    · assumption
    · exact h
  have e : hopRV L = ((hopRd L (hopS0 L) (rnV L 0 none 0 4096).toNat).2.2, 0, 0) := by
    unfold hopRV hopEnd
    rw [if_pos hE]
  obtain ⟨hf, hk⟩ := endF_zero hz hE
  obtain ⟨k, out, e1, ht, hl, hb⟩ := hopRd_back hB _ hf
  rw [e1] at e hk
  simp only at e hk
  rw [e]
  have hc : chkH out = (0, 0) := chkG_ok (by omega) (fun j hj => hb j (by omega))
  have hc1 : (chkH out).1 = 0 := by rw [hc]
  refine ⟨hc1, ?_, rfl⟩
  have hR : lstB out = putL out.length ++ out.flatMap hopB := by unfold lstB; exact if_pos hc1
  show lstB out = L
  rw [hR, hl, ← ht, List.take_of_length_le hk]
theorem hopRV_nil {L : List Nat} (h : (hopRV L).2.1 ≠ 0) : (hopRV L).1 = [] := by
  unfold hopRV hopEnd at h ⊢
  split
  · rename_i h0; rw [if_pos h0] at h; exact absurd rfl h
  · rfl
/-- what is read may be -/
theorem hopRV_fits {L : List Nat} (hB : Byt L) : ∀ x ∈ (hopRV L).1, FitsH x := by
  by_cases h : (hopRV L).2.1 = 0
  · exact fun x hx => may_fits (chkH_may (hopRV_back hB h).1 x hx)
  · rw [hopRV_nil h]
    intro x hx
    simp at hx
end Go.Proofs.Ytjdpgapmdmpjjaa
