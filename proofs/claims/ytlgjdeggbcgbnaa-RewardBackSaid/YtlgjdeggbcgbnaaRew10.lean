/- Credits as bytes, read back: what is written is read, what is read was written. Conditions stand in each lemma. -/
import Derived.Test.YtlgjdeggbcgbnaaRew9
import Derived.Test.YtlgjdeggbcgbnaaCodecM
set_option linter.unusedVariables false
set_option linter.unusedSimpArgs false
namespace Go.Proofs.Ytlgjdeggbcgbnaa
open Go.RowKit

theorem ru_put {L rest : List Nat} {k m : Nat} (hL : L.drop k = putL m ++ rest) (hm : m < 18446744073709551616) : ruV L k none = m ∧ ruK L k none = k + (putL m).length ∧ ruF L k none = none := by
  have e := numGo_putL m m 0 0 rest (Nat.le_refl _) (fun h => absurd h (by omega)) (by omega) (by omega)
  rw [← hL] at e
  have e0 : ruE L k = 0 := by unfold ruE; rw [e]
  unfold ruV ruK ruF
  rw [e0, e]
  simp [failF]
theorem ru_back {L : List Nat} (hB : Byt L) {k : Nat} (h : ruF L k none = none) : ∃ m rest, L.drop k = putL m ++ rest ∧ ruV L k none = (m : Int) ∧ ruK L k none = k + (putL m).length ∧ m < 18446744073709551616 := by
  have e0 : ruE L k = 0 := by
    unfold ruF at h
    rw [if_pos rfl] at h
    exact (failF_none h).2
  obtain ⟨n, k', e, hx⟩ : ∃ n k' e, numGo (L.drop k) 0 0 = (n, k', e) := ⟨_, _, _, rfl⟩
  have hb := e0
  unfold ruE at hb
  rw [hx] at hb
  simp only at hb
  subst hb
  have hBd : Byt (L.drop k) := fun x hx => hB x (List.mem_of_mem_drop hx)
  obtain ⟨m, rest, hL, hn, hk, _⟩ := numGo_back (L.drop k) 0 0 n k' hBd hx
  have hlt := numGo_lt' (L.drop k) 0 0 (by omega) (by decide) hBd
  rw [hx] at hlt
  simp at hn hk hlt
  subst hn; subst hk
  unfold ruV ruK
  rw [e0, hx]
  exact ⟨n, rest, hL, by simp, by simp, hlt⟩
theorem take_put {L p rest : List Nat} {k : Nat} (h : L.drop k = p ++ rest) : L.take (k + p.length) = L.take k ++ p ∧ L.drop (k + p.length) = rest := by
  refine ⟨?_, ?_⟩
  · rw [List.take_add, h, List.take_left]
  · rw [← List.drop_drop, h, List.drop_left]
theorem numB_append (l r : List Int) : numB (l ++ r) = numB l ++ numB r := by unfold numB; rw [List.flatMap_append]
theorem numB_one (x : Int) : numB [x] = putL x.toNat := by simp [numB]
theorem crRd_put {l : List Int} (hc : chkR l = 0) (hw : ∀ x ∈ l, Word x) : ∀ j, j ≤ l.length → crRd (crB l) (crS0 (crB l)) j = ((putL l.length ++ numB (l.take j)).length, none, l.take j)
  | 0, _ => by
    obtain ⟨h1, h64, _⟩ := chkR_zero hc
    have hB : crB l = putL l.length ++ numB l := by unfold crB; exact if_pos hc
    obtain ⟨v, k, f⟩ := rn_put (L := crB l) (k := 0) (lo := 1) (hi := 64) (by rw [List.drop_zero]; exact hB) (by omega) (by omega) (by omega)
    show crS0 (crB l) = _
    unfold crS0
    rw [k, f]
    simp [numB]
  | j + 1, hj => by
    obtain ⟨h1, h64, _⟩ := chkR_zero hc
    have hB : crB l = putL l.length ++ numB l := by unfold crB; exact if_pos hc
    have hlt : j < l.length := by omega
    rw [crRd, crRd_put hc hw j (by omega)]
    have hd : (crB l).drop (putL l.length ++ numB (l.take j)).length = putL (l[j]).toNat ++ numB (l.drop (j + 1)) := by
      have e : crB l = (putL l.length ++ numB (l.take j)) ++ (putL (l[j]).toNat ++ numB (l.drop (j + 1))) := by
        have e1 : l = l.take j ++ l[j] :: l.drop (j + 1) := by rw [← List.drop_eq_getElem_cons hlt, List.take_append_drop]
        have e2 : numB l = numB (l.take j) ++ (putL (l[j]).toNat ++ numB (l.drop (j + 1))) := by
          conv => lhs; rw [e1]
          unfold numB
          rw [List.flatMap_append, List.flatMap_cons]
        rw [hB, e2, List.append_assoc]
      rw [e, List.drop_left]
    obtain ⟨w1, w2⟩ := hw l[j] (List.getElem_mem hlt)
    obtain ⟨v, k, f⟩ := ru_put hd (by omega)
    unfold crRd1
    simp only [v, k, f]
    rw [List.take_succ_eq_append_getElem hlt, numB_append, numB_one, Int.toNat_of_nonneg w1]
    refine Prod.ext ?_ rfl
    simp only [List.length_append]
    omega
/-- what was written is read -/
theorem crRV_put {l : List Int} (hc : chkR l = 0) (hw : ∀ x ∈ l, Word x) : crRV (crB l) = (l, 0, 0) := by
  obtain ⟨h1, h64, ht, _⟩ := chkR_zero hc
  have hB : crB l = putL l.length ++ numB l := by unfold crB; exact if_pos hc
  obtain ⟨v, _, _⟩ := rn_put (L := crB l) (k := 0) (lo := 1) (hi := 64) (by rw [List.drop_zero]; exact hB) (by omega) (by omega) (by omega)
  unfold crRV
  rw [v, show ((l.length : Nat) : Int).toNat = l.length from by simp, crRd_put hc hw l.length (Nat.le_refl _), List.take_length, ← hB]
  unfold crEnd endF
  simp [ht]
theorem crRd_back {L : List Nat} (hB : Byt L) : ∀ j, (crRd L (crS0 L) j).2.1 = none → ∃ k out, crRd L (crS0 L) j = (k, none, out) ∧ L.take k = putL (rnV L 0 none 1 64).toNat ++ numB out ∧ out.length = j ∧ (∀ x ∈ out, Word x)
  | 0, h => by
    have h' : rnF L 0 none 1 64 = none := h
    obtain ⟨m, rest, d, v, k, _, _⟩ := rn_back hB (by decide) h'
    refine ⟨rnK L 0 none 1 64, [], ?_, ?_, rfl, fun x hx => by simp at hx⟩
    · show crS0 L = _
      unfold crS0
      rw [h']
    · rw [k, v, (take_put d).1]
      simp [numB]
  | j + 1, h => by
    have h1 : (crRd L (crS0 L) j).2.1 = none := ruF_none h
    obtain ⟨k, out, e, ht, hl, hw⟩ := crRd_back hB j h1
    rw [crRd, e] at h
    have h2 : ruF L k none = none := h
    obtain ⟨m, rest, d, v, k2, hm⟩ := ru_back hB h2
    refine ⟨k + (putL m).length, out ++ [(m : Int)], ?_, ?_, by simp [hl], ?_⟩
    · rw [crRd, e]
      unfold crRd1
      simp only [v, k2, h2]
    · rw [(take_put d).1, ht, numB_append, numB_one]
      simp
    · intro y hy
      rcases List.mem_append.1 hy with hy | hy
      · exact hw y hy
      · simp at hy
        subst hy
        exact ⟨by omega, by omega⟩
/-- what is read was written -/
theorem crRV_back {L : List Nat} (hB : Byt L) (h : (crRV L).2.1 = 0) : chkR (crRV L).1 = 0 ∧ crB (crRV L).1 = L ∧ (crRV L).2.2 = 0 ∧ (∀ x ∈ (crRV L).1, Word x) := by
  have hz : FltNz (crRd L (crS0 L) (rnV L 0 none 1 64).toNat).2.1 := crRd_nz (crS0_nz L) _
  have hn := rnV_in L 0 none 1 64 (by decide)
  have hE : (endF (crRd L (crS0 L) (rnV L 0 none 1 64).toNat).2.1 (crRd L (crS0 L) (rnV L 0 none 1 64).toNat).1 L.length).1 = 0 := by
    unfold crRV crEnd at h
    split at h
    · rename_i h1; exact absurd h h1
    · rename_i h1; exact Decidable.of_not_not h1
  have hT : (totV (crRd L (crS0 L) (rnV L 0 none 1 64).toNat).2.2).2 = 0 := by
    unfold crRV crEnd at h
    rw [if_neg (fun hh => hh hE)] at h
    split at h
    · simp at h
    · rename_i h1; exact Decidable.of_not_not h1
  have e : crRV L = ((crRd L (crS0 L) (rnV L 0 none 1 64).toNat).2.2, 0, 0) := by
    unfold crRV crEnd
    rw [if_neg (fun hh => hh hE), if_neg (fun hh => hh hT)]
  obtain ⟨hf, hk⟩ := endF_zero hz hE
  have h1 := rn_one (crRd_none _ hf)
  obtain ⟨k, out, e1, ht, hl, hw⟩ := crRd_back hB _ hf
  rw [e1] at e hk hT
  simp only at e hk hT
  rw [e]
  have hc : chkR out = 0 := by unfold chkR; rw [if_neg (by omega)]; exact hT
  refine ⟨hc, ?_, rfl, hw⟩
  have hR : crB out = putL out.length ++ numB out := by unfold crB; exact if_pos hc
  rw [hR, hl, ← ht, List.take_of_length_le hk]
theorem crRV_nil {L : List Nat} (h : (crRV L).2.1 ≠ 0) : (crRV L).1 = [] := by
  unfold crRV crEnd at h ⊢
  split
  · rfl
  · split
    · rfl
    · rename_i h0 h1
      rw [if_neg h0, if_neg h1] at h
      exact absurd rfl h
end Go.Proofs.Ytlgjdeggbcgbnaa
