/- Rosters as bytes, read back: what is written is read, what is read was written. Conditions stand in each lemma. -/
import Derived.Test.YtjdpgapmdmpjjaaRosRR
set_option linter.unusedVariables false
set_option linter.unusedSimpArgs false
namespace Go.Proofs.Ytjdpgapmdmpjjaa
open Go.RowKit

theorem ru_put {L rest : List Nat} {k m : Nat} (hL : L.drop k = putL m ++ rest) (hm : m < 18446744073709551616) : ruV L k none = m ∧ ruK L k none = k + (putL m).length ∧ ruF L k none = none := by
  have e := numGo_putL m m 0 0 rest (Nat.le_refl _) (fun h => absurd h (by omega)) (by omega) (by omega)
  rw [← hL] at e
  have e0 : ruE L k = 0 := by unfold ruE; rw [e]
  unfold ruV ruK ruF
  rw [e0, e]
  simp [failF]
theorem ru_back {L : List Nat} (hB : Byt L) {k : Nat} (h : ruF L k none = none) : ∃ m rest, L.drop k = putL m ++ rest ∧ ruV L k none = (m : Int) ∧ ruK L k none = k + (putL m).length ∧ m < 18446744073709551616 := by
  have e0 : ruE L k = 0 := by
    unfold ruF at h
    rw [if_pos rfl] at h
    exact (failF_none h).2
  obtain ⟨n, k', e, hx⟩ : ∃ n k' e, numGo (L.drop k) 0 0 = (n, k', e) := ⟨_, _, _, rfl⟩
  have hb := e0
  unfold ruE at hb
  rw [hx] at hb
  simp only at hb
  subst hb
  have hBd : Byt (L.drop k) := fun x hx => hB x (List.mem_of_mem_drop hx)
  obtain ⟨m, rest, hL, hn, hk, _⟩ := numGo_back (L.drop k) 0 0 n k' hBd hx
  have hlt := numGo_lt' (L.drop k) 0 0 (by omega) (by decide) hBd
  rw [hx] at hlt
  simp at hn hk hlt
  subst hn; subst hk
  unfold ruV ruK
  rw [e0, hx]
  exact ⟨n, rest, hL, by simp, by simp, hlt⟩
theorem ruF_none {L : List Nat} {k : Nat} {f : Option (Int × Int)} (h : ruF L k f = none) : f = none := by
  cases f with
  | none => rfl
  | some x => rw [ruF_some] at h; cases h
theorem take_put {L p rest : List Nat} {k : Nat} (h : L.drop k = p ++ rest) : L.take (k + p.length) = L.take k ++ p ∧ L.drop (k + p.length) = rest := by
  refine ⟨?_, ?_⟩
  · rw [List.take_add, h, List.take_left]
  · rw [← List.drop_drop, h, List.drop_left]
theorem bits_put (a b : Bool) : 0 ≤ bitsV a b ∧ bitsV a b ≤ 3 ∧ decide (bitsV a b % 2 = 1) = a ∧ decide (2 ≤ bitsV a b) = b := by
  cases a <;> cases b <;> decide
theorem bits_back (n : Int) (h0 : 0 ≤ n) (h1 : n ≤ 3) : bitsV (decide (n % 2 = 1)) (decide (2 ≤ n)) = n := by
  have h : n = 0 ∨ n = 1 ∨ n = 2 ∨ n = 3 := by omega
  rcases h with rfl | rfl | rfl | rfl <;> decide
/-- one validator that was written is read -/
theorem rosRd1_put {L rest : List Nat} {k : Nat} {out : List (Int × Int × Int × Int × Bool × Bool)} {x : (Int × Int × Int × Int × Bool × Bool)} (hL : L.drop k = valB x ++ rest) (h : 0 ≤ x.1 ∧ x.1 < 64 ∧ x.2.1 ≠ 0 ∧ 1 ≤ x.2.2.1 ∧ x.2.2.1 ≤ 4 ∧ 0 ≤ x.2.2.2.1 ∧ x.2.2.2.1 ≤ 4296015872) (hu : 0 ≤ x.2.1 ∧ x.2.1 < 18446744073709551616)
    (he : oneV x.1 x.2.1 x.2.2.1 x.2.2.2.1 x.2.2.2.2.1 x.2.2.2.2.2 (decide (x.1 ∈ out.map (·.1))) = 0) : rosRd1 L (k, none, out) = (k + (valB x).length, none, out ++ [x]) := by
  obtain ⟨x0, x1, x2, x3, x4, x5⟩ := x
  simp only at h hu he
  obtain ⟨b0, b1, b2, b3⟩ := bits_put x4 x5
  unfold valB at hL
  simp only [List.append_assoc] at hL
  obtain ⟨v1, k1, f1⟩ := rn_put (lo := 0) (hi := 63) hL (by omega) (by omega) (by omega)
  have d1 := (take_put hL).2
  obtain ⟨v2, k2, f2⟩ := ru_put d1 (by omega)
  have d2 := (take_put d1).2
  obtain ⟨v3, k3, f3⟩ := rn_put (lo := 1) (hi := 4) d2 (by omega) (by omega) (by omega)
  have d3 := (take_put d2).2
  obtain ⟨v4, k4, f4⟩ := rn_put (lo := 0) (hi := 4296015872) d3 (by omega) (by omega) (by omega)
  have d4 := (take_put d3).2
  obtain ⟨v5, k5, f5⟩ := rn_put (lo := 0) (hi := 3) d4 (by omega) (by omega) (by omega)
  unfold rosRd1
  simp only [v1, k1, f1, v2, k2, f2, v3, k3, f3, v4, k4, f4, v5, k5, f5]
  rw [Int.toNat_of_nonneg (by omega : 0 ≤ x0), Int.toNat_of_nonneg (by omega : 0 ≤ x1), Int.toNat_of_nonneg (by omega : 0 ≤ x2), Int.toNat_of_nonneg (by omega : 0 ≤ x3), Int.toNat_of_nonneg b0, b2, b3, he]
  simp only [failF_ok, valB, List.length_append, Prod.mk.injEq, and_true]
  omega
theorem rosRd_put {l : List (Int × Int × Int × Int × Bool × Bool)} (hc : (chkV l).1 = 0) (hm : ∀ x ∈ l, Fits .u64 x.2.1) : ∀ j, j ≤ l.length → rosRd (rosB l) (rosS0 (rosB l)) j = ((putL l.length ++ (l.take j).flatMap valB).length, none, l.take j)
  | 0, _ => by
    obtain ⟨_, h32, _⟩ := chkV_zero hc
    have hB : rosB l = putL l.length ++ l.flatMap valB := by unfold rosB; exact if_pos hc
    obtain ⟨v, k, f⟩ := rn_put (L := rosB l) (k := 0) (lo := 0) (hi := 32) (by rw [List.drop_zero]; exact hB) (by omega) (by omega) (by omega)
    show rosS0 (rosB l) = _
    unfold rosS0
    rw [k, f]
    simp
  | j + 1, hj => by
    obtain ⟨_, h32, hbad⟩ := chkV_zero hc
    have hB : rosB l = putL l.length ++ l.flatMap valB := by unfold rosB; exact if_pos hc
    have hlt : j < l.length := by omega
    have hx := List.getElem?_eq_getElem hlt
    rw [rosRd, rosRd_put hc hm j (by omega)]
    have hd : (rosB l).drop (putL l.length ++ (l.take j).flatMap valB).length = valB l[j] ++ (l.drop (j + 1)).flatMap valB := by
      have e : rosB l = (putL l.length ++ (l.take j).flatMap valB) ++ (valB l[j] ++ (l.drop (j + 1)).flatMap valB) := by
        have e1 : l = l.take j ++ l[j] :: l.drop (j + 1) := by rw [← List.drop_eq_getElem_cons hlt, List.take_append_drop]
        have e2 : l.flatMap valB = (l.take j).flatMap valB ++ (valB l[j] ++ (l.drop (j + 1)).flatMap valB) := by
          conv => lhs; rw [e1]
          rw [List.flatMap_append, List.flatMap_cons]
        rw [hB, e2, List.append_assoc]
      rw [e, List.drop_left]
    have hev := hbad j hlt
    unfold badV at hev
    rw [hx] at hev
    rw [rosRd1_put hd (val_in hc hx) (hm _ (List.getElem_mem hlt)).u64 hev, List.take_succ_eq_append_getElem hlt]
    refine Prod.ext ?_ rfl
    simp only [List.flatMap_append, List.flatMap_cons, List.flatMap_nil, List.append_nil, List.length_append]
    omega
/-- what was written is read -/
theorem rosRV_put {l : List (Int × Int × Int × Int × Bool × Bool)} (hc : (chkV l).1 = 0) (hm : ∀ x ∈ l, Fits .u64 x.2.1) : rosRV (rosB l) = (l, 0, 0) := by
  obtain ⟨_, h32, _⟩ := chkV_zero hc
  have hB : rosB l = putL l.length ++ l.flatMap valB := by unfold rosB; exact if_pos hc
  obtain ⟨v, _, _⟩ := rn_put (L := rosB l) (k := 0) (lo := 0) (hi := 32) (by rw [List.drop_zero]; exact hB) (by omega) (by omega) (by omega)
  unfold rosRV
  rw [v, show ((l.length : Nat) : Int).toNat = l.length from by simp, rosRd_put hc hm l.length (Nat.le_refl _), List.take_length, ← hB]
  unfold rosEnd endF
  simp
/-- one validator that was read -/
theorem rosRd1_back {L : List Nat} (hB : Byt L) {k : Nat} {out : List (Int × Int × Int × Int × Bool × Bool)} (h : (rosRd1 L (k, none, out)).2.1 = none) : ∃ x : (Int × Int × Int × Int × Bool × Bool), rosRd1 L (k, none, out) = (k + (valB x).length, none, out ++ [x]) ∧ L.take (k + (valB x).length) = L.take k ++ valB x ∧
    oneV x.1 x.2.1 x.2.2.1 x.2.2.2.1 x.2.2.2.2.1 x.2.2.2.2.2 (decide (x.1 ∈ out.map (·.1))) = 0 ∧ Fits .i64 x.1 ∧ Fits .u64 x.2.1 := by
  have h' := h
  unfold rosRd1 at h
  simp only at h
  obtain ⟨g5, hev⟩ := failF_none h
  have g4 := rnF_none g5
  have g3 := rnF_none g4
  have g2 := rnF_none g3
  have g1 := ruF_none g2
  rw [g1] at g2 g3 g4 g5 hev
  rw [g2] at g3 g4 g5 hev
  rw [g3] at g4 g5 hev
  rw [g4] at g5 hev
  obtain ⟨m1, r1, d1, v1, k1, _, _⟩ := rn_back hB (by decide) g1
  rw [k1] at g2 g3 g4 g5 hev
  obtain ⟨m2, r2, d2, v2, k2, h2⟩ := ru_back hB g2
  rw [k2] at g3 g4 g5 hev
  obtain ⟨m3, r3, d3, v3, k3, _, _⟩ := rn_back hB (by decide) g3
  rw [k3] at g4 g5 hev
  obtain ⟨m4, r4, d4, v4, k4, _, _⟩ := rn_back hB (by decide) g4
  rw [k4] at g5 hev
  obtain ⟨m5, r5, d5, v5, k5, _, h5⟩ := rn_back hB (by decide) g5
  rw [v1, v2, v3, v4, v5] at hev
  have hb := bits_back (m5 : Int) (by omega) h5
  have hvb : valB ((m1 : Int), (m2 : Int), (m3 : Int), (m4 : Int), decide ((m5 : Int) % 2 = 1), decide (2 ≤ (m5 : Int))) = putL m1 ++ (putL m2 ++ (putL m3 ++ (putL m4 ++ putL m5))) := by
    unfold valB
    simp only [hb]
    simp
  have hlen : (valB ((m1 : Int), (m2 : Int), (m3 : Int), (m4 : Int), decide ((m5 : Int) % 2 = 1), decide (2 ≤ (m5 : Int)))).length = (putL m1).length + ((putL m2).length + ((putL m3).length + ((putL m4).length + (putL m5).length))) := by rw [hvb]; simp only [List.length_append]
  refine ⟨((m1 : Int), (m2 : Int), (m3 : Int), (m4 : Int), decide ((m5 : Int) % 2 = 1), decide (2 ≤ (m5 : Int))), ?_, ?_, hev, ?_, ?_⟩
  · unfold rosRd1
    simp only [g1, k1, v1, g2, k2, v2, g3, k3, v3, g4, k4, v4, g5, k5, v5, hev, hlen, failF_ok, Prod.mk.injEq, and_true]
    omega
  · have t1 := (take_put d1).1
    have t2 := (take_put d2).1
    have t3 := (take_put d3).1
    have t4 := (take_put d4).1
    have t5 := (take_put d5).1
    rw [t4, t3, t2, t1] at t5
    rw [hlen, show k + ((putL m1).length + ((putL m2).length + ((putL m3).length + ((putL m4).length + (putL m5).length)))) = k + (putL m1).length + (putL m2).length + (putL m3).length + (putL m4).length + (putL m5).length from by omega, t5, hvb]
    simp only [List.append_assoc]
  · obtain ⟨h0, h1, _⟩ := oneV_zero hev
    unfold Fits
    simp [Lit.wf, IntKind.min, IntKind.max, IntKind.bits, IntKind.signed]
    omega
  · unfold Fits
    simp [Lit.wf, IntKind.min, IntKind.max, IntKind.bits, IntKind.signed]
    omega
theorem badV_old {out : List (Int × Int × Int × Int × Bool × Bool)} {x : (Int × Int × Int × Int × Bool × Bool)} {i : Nat} (hi : i < out.length) : badV (out ++ [x]) i = badV out i := by
  unfold badV
  rw [List.getElem?_append_left hi, List.take_append_of_le_length (by omega)]
theorem badV_new {out : List (Int × Int × Int × Int × Bool × Bool)} {x : (Int × Int × Int × Int × Bool × Bool)} : badV (out ++ [x]) out.length = oneV x.1 x.2.1 x.2.2.1 x.2.2.2.1 x.2.2.2.2.1 x.2.2.2.2.2 (decide (x.1 ∈ out.map (·.1))) := by
  unfold badV
  rw [List.getElem?_append_right (Nat.le_refl _), Nat.sub_self, List.take_left']
  · rfl
  · rfl
theorem rosRd_back {L : List Nat} (hB : Byt L) : ∀ j, (rosRd L (rosS0 L) j).2.1 = none → ∃ k out, rosRd L (rosS0 L) j = (k, none, out) ∧ L.take k = putL (rnV L 0 none 0 32).toNat ++ out.flatMap valB ∧ out.length = j ∧ (∀ i, i < j → badV out i = 0) ∧ (∀ x ∈ out, Fits .i64 x.1 ∧ Fits .u64 x.2.1)
  | 0, h => by
    have h' : rnF L 0 none 0 32 = none := h
    obtain ⟨m, rest, d, v, k, _, _⟩ := rn_back hB (by decide) h'
    refine ⟨rnK L 0 none 0 32, [], ?_, ?_, rfl, fun i hi => absurd hi (by omega), fun x hx => by simp at hx⟩
    · show rosS0 L = _
      unfold rosS0
      rw [h']
    · rw [k, v, (take_put d).1]
      simp
  | j + 1, h => by
    have h1 : (rosRd L (rosS0 L) j).2.1 = none := by
      cases hf : (rosRd L (rosS0 L) j).2.1 with
      | none => rfl
      | some x => rw [rosRd, rosRd1_some hf] at h; cases h
    obtain ⟨k, out, e, ht, hl, hb, hw⟩ := rosRd_back hB j h1
    rw [rosRd, e] at h
    obtain ⟨x, e2, ht2, hev, hx1, hx2⟩ := rosRd1_back hB h
    refine ⟨_, _, by rw [rosRd, e, e2], ?_, by simp [hl], ?_, ?_⟩
    · rw [ht2, ht, List.flatMap_append]
      simp
    · intro i hi
      rcases Nat.lt_or_ge i j with hij | hij
      · rw [badV_old (by omega)]
        exact hb i hij
      · have : i = out.length := by omega
        subst this
        rw [badV_new]
        exact hev
    · intro y hy
      rcases List.mem_append.1 hy with hy | hy
      · exact hw y hy
      · simp at hy
        subst hy
        exact ⟨hx1, hx2⟩
/-- what is read was written -/
theorem rosRV_back {L : List Nat} (hB : Byt L) (h : (rosRV L).2.1 = 0) : (chkV (rosRV L).1).1 = 0 ∧ rosB (rosRV L).1 = L ∧ (rosRV L).2.2 = 0 ∧ (∀ x ∈ (rosRV L).1, Fits .i64 x.1 ∧ Fits .u64 x.2.1) := by
  have hn := rnV_in L 0 none 0 32 (by decide)
  have hz : FltNz (rosRd L (rosS0 L) (rnV L 0 none 0 32).toNat).2.1 := rosRd_nz (rosS0_nz L) _
  have hE : (endF (rosRd L (rosS0 L) (rnV L 0 none 0 32).toNat).2.1 (rosRd L (rosS0 L) (rnV L 0 none 0 32).toNat).1 L.length).1 = 0 := by
    unfold rosRV rosEnd at h
    split at h
    · assumption
    · exact h
  have e : rosRV L = ((rosRd L (rosS0 L) (rnV L 0 none 0 32).toNat).2.2, 0, 0) := by
    unfold rosRV rosEnd
    rw [if_pos hE]
  obtain ⟨hf, hk⟩ := endF_zero hz hE
  obtain ⟨k, out, e1, ht, hl, hb, hw⟩ := rosRd_back hB _ hf
  rw [e1] at e hk
  simp only at e hk
  rw [e]
  have hc : chkV out = (0, 0) := chkV_ok (by omega) (fun j hj => hb j (by omega))
  have hc1 : (chkV out).1 = 0 := by rw [hc]
  refine ⟨hc1, ?_, rfl, hw⟩
  have hR : rosB out = putL out.length ++ out.flatMap valB := by unfold rosB; exact if_pos hc1
  rw [hR, hl, ← ht, List.take_of_length_le hk]
theorem rosRV_nil {L : List Nat} (h : (rosRV L).2.1 ≠ 0) : (rosRV L).1 = [] := by
  unfold rosRV rosEnd at h ⊢
  split
  · rename_i h0; rw [if_pos h0] at h; exact absurd rfl h
  · rfl
end Go.Proofs.Ytjdpgapmdmpjjaa
