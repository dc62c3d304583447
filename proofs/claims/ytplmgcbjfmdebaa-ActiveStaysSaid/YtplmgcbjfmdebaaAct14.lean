/- The active set, in plain Lean: whoever gets more stays in; by what Diff tells one comes from one set to the next. Conditions stand in each lemma. -/
import Derived.Test.YtplmgcbjfmdebaaAct11
set_option linter.unusedVariables false
set_option linter.unusedSimpArgs false
namespace Go.Proofs.Ytplmgcbjfmdebaa

/-- a list with noughts behind it -/
def padW (ts : List Int) (K : Nat) : List Int := ts ++ List.replicate (K - ts.length) 0
theorem padW_len {ts : List Int} {K : Nat} (h : ts.length ≤ K) : (padW ts K).length = K := by unfold padW; simp; omega
theorem tk_pad (ts : List Int) (K i : Nat) : tk (padW ts K) i = tk ts i := by
  unfold tk padW
  rw [List.getD_eq_getElem?_getD, List.getD_eq_getElem?_getD]
  by_cases h : i < ts.length
  · rw [List.getElem?_append_left h]
  · have e : ts[i]? = none := List.getElem?_eq_none (by omega)
    rw [List.getElem?_append_right (by omega), e, List.getElem?_replicate]
    split <;> rfl
theorem tk_set {l : List Int} {u i : Nat} {v : Int} (h : u < l.length) : tk (l.set u v) i = if i = u then v else tk l i := by
  unfold tk
  rw [List.getD_eq_getElem?_getD, List.getElem?_set, List.getD_eq_getElem?_getD]
  by_cases e : u = i
  · subst e; simp [h]
  · rw [if_neg e, if_neg (fun hh => e hh.symm)]
theorem isB_set {l : List Bool} {d i : Nat} : isB (l.set d false) i = if i = d then false else isB l i := by
  unfold isB
  rw [List.getD_eq_getElem?_getD, List.getElem?_set, List.getD_eq_getElem?_getD]
  by_cases e : d = i
  · subst e
    by_cases h : d < l.length <;> simp [h]
  · rw [if_neg e, if_neg (fun hh => e hh.symm)]
theorem allN_next {ts : List Int} {ms : List Bool} {K u d : Nat} {v : Int} (hK : allN ts ms = K) : allN ((padW ts K).set u v) (ms.set d false) = K := by
  unfold allN at *
  rw [List.length_set, List.length_set, padW_len (by omega)]
  omega
theorem stays_in {ts : List Int} {ms : List Bool} {most v : Int} {K u d : Nat} (hK : allN ts ms = K) (hu : u < K) (hud : u ≠ d) (hv : tk ts u ≤ v) (h : (cnt ts ms u && decide ((aheadL ts ms u : Int) < most)) = true) :
    (cnt ((padW ts K).set u v) (ms.set d false) u && decide ((aheadL ((padW ts K).set u v) (ms.set d false) u : Int) < most)) = true := by
  have hKl : ts.length ≤ K := by unfold allN at hK; omega
  have hpl := padW_len hKl
  simp only [Bool.and_eq_true, decide_eq_true_eq] at h ⊢
  have hle : aheadL ((padW ts K).set u v) (ms.set d false) u ≤ aheadL ts ms u := by
    unfold aheadL
    rw [allN_next hK, hK]
    unfold aheadT
    refine List.countP_mono_left (fun k _ hk => ?_)
    simp only [Bool.and_eq_true, decide_eq_true_eq] at hk ⊢
    obtain ⟨h1, h2⟩ := hk
    rw [rich_pr, tk_set (by omega), tk_set (by omega), if_pos rfl] at h2
    have hku : k ≠ u := by rintro rfl; simp at h2
    rw [if_neg hku, tk_pad] at h2
    unfold cnt at h1 ⊢
    rw [isB_set, tk_set (by omega), if_neg hku, tk_pad] at h1
    simp only [Bool.and_eq_true, decide_eq_true_eq] at h1 ⊢
    have hkd : k ≠ d := by rintro rfl; simp at h1
    rw [if_neg hkd] at h1
    refine ⟨h1, ?_⟩
    rw [rich_pr]
    omega
  refine ⟨?_, by omega⟩
  have h1 := h.1
  unfold cnt at h1 ⊢
  rw [isB_set, if_neg hud, tk_set (by omega), if_pos rfl]
  simp only [Bool.and_eq_true, decide_eq_true_eq] at h1 ⊢
  exact ⟨h1.1, by omega⟩
theorem goes_out (ts : List Int) (ms : List Bool) (d : Nat) : cnt ts (ms.set d false) d = false := by
  unfold cnt
  rw [isB_set, if_pos rfl, Bool.false_and]
theorem mem_difI {a b : List Bool} {m : Nat} {i : Nat} : (i : Int) ∈ difI a b m ↔ i < m ∧ isB b i = true ∧ isB a i = false := by
  unfold difI
  rw [List.mem_map]
  constructor
  · rintro ⟨j, hj, e⟩
    rw [List.mem_filter, List.mem_range] at hj
    obtain rfl : j = i := Int.ofNat.inj e
    simpa [and_assoc] using hj
  · rintro ⟨h1, h2, h3⟩
    exact ⟨i, List.mem_filter.2 ⟨List.mem_range.2 h1, by simp [h2, h3]⟩, rfl⟩
theorem difI_nodup (a b : List Bool) (m : Nat) : (difI a b m).Nodup := by
  unfold difI
  apply List.Pairwise.map (R := fun a b => a ≠ b)
  · intro a b h e; exact h (Int.ofNat.inj e)
  · exact (List.nodup_range (n := m)).filter _
theorem difO_eq (a b : List Bool) (m : Nat) : difO a b m = difI b a m := rfl
theorem nodup_take {l : List Int} (h : l.Nodup) {j : Nat} {x : Int} (hx : l[j]? = some x) : x ∉ l.take j := by
  intro hm
  obtain ⟨i, hi, he⟩ := List.getElem_of_mem hm
  rw [List.length_take] at hi
  rw [List.getElem_take] at he
  have hj := (List.getElem?_eq_some_iff.1 hx)
  obtain ⟨hj1, hj2⟩ := hj
  exact List.pairwise_iff_getElem.1 h i j (by omega) hj1 (by omega) (he.trans hj2.symm)
/-- the set on the way: with those that came in up to j -/
def bk1 (V0 : List Bool) (I : List Int) (K j : Nat) : List Bool := (List.range K).map fun i => isB V0 i || decide ((i : Int) ∈ I.take j)
def bk2 (V0 V1 : List Bool) (O : List Int) (K j : Nat) : List Bool := (List.range K).map fun i => (isB V0 i || isB V1 i) && !decide ((i : Int) ∈ O.take j)
theorem range_get {f : Nat → Bool} {K i : Nat} (h : i < K) : ((List.range K).map f)[i]? = some (f i) := by rw [List.getElem?_map, List.getElem?_range h]; rfl
theorem range_getD {f : Nat → Bool} {K i : Nat} (h : i < K) : ((List.range K).map f).getD i false = f i := by rw [List.getD_eq_getElem?_getD, range_get h]; rfl
theorem range_isB {V : List Bool} {K : Nat} (h : V.length = K) : (List.range K).map (isB V) = V := by
  apply List.ext_getElem?
  intro i
  by_cases hi : i < K
  · rw [range_get hi]
    unfold isB
    rw [List.getD_eq_getElem?_getD, List.getElem?_eq_getElem (by omega)]; rfl
  · rw [List.getElem?_eq_none (by simp; omega), List.getElem?_eq_none (by omega)]
theorem range_set {f g : Nat → Bool} {K i : Nat} {v : Bool} (hi : i < K) (hv : g i = v) (h : ∀ k, k < K → k ≠ i → f k = g k) : ((List.range K).map f).set i v = (List.range K).map g := by
  apply List.ext_getElem?
  intro k
  by_cases hk : k < K
  · rw [List.getElem?_set, range_get hk, range_get hk]
    by_cases e : i = k
    · subst e; simp [hi, hv]
    · rw [if_neg e, h k hk (fun hh => e hh.symm)]
  · rw [List.getElem?_eq_none (by simp; omega), List.getElem?_eq_none (by simp; omega)]
theorem bk1_start {V0 : List Bool} {I : List Int} {K : Nat} (h : V0.length = K) : bk1 V0 I K 0 = V0 := by
  unfold bk1
  simp [range_isB h]
theorem take_snoc {l : List Int} {j : Nat} {x : Int} (h : l[j]? = some x) : l.take (j + 1) = l.take j ++ [x] := by
  rw [List.take_add_one, h]; rfl
theorem bk1_step {V0 V1 : List Bool} {K j : Nat} {x : Int} (h : (difI V0 V1 K)[j]? = some x) :
    ∃ i : Nat, x = i ∧ i < K ∧ (bk1 V0 (difI V0 V1 K) K j).getD i false = false ∧ (bk1 V0 (difI V0 V1 K) K j).set i true = bk1 V0 (difI V0 V1 K) K (j + 1) := by
  have hm := List.mem_of_getElem? h
  have hm0 := hm
  unfold difI at hm0
  obtain ⟨i, hi, rfl⟩ := List.mem_map.1 hm0
  have h1 := mem_difI.1 hm
  have h2 := nodup_take (difI_nodup V0 V1 K) h
  refine ⟨i, rfl, h1.1, ?_, ?_⟩
  · unfold bk1
    rw [range_getD h1.1, h1.2.2]
    simpa using h2
  · unfold bk1
    rw [take_snoc h]
    refine range_set h1.1 ?_ (fun k hk hki => ?_)
    · simp
    · have h3 : ¬ (k : Int) = Int.ofNat i := fun e => hki (Int.ofNat.inj e)
      have h4 : ((k : Int) ∈ (difI V0 V1 K).take j ++ [Int.ofNat i]) ↔ (k : Int) ∈ (difI V0 V1 K).take j := by simp only [List.mem_append, List.mem_singleton, h3, or_false]
      simp only [h4]
theorem bk_mid {V0 V1 : List Bool} {K : Nat} : bk1 V0 (difI V0 V1 K) K (difI V0 V1 K).length = bk2 V0 V1 (difO V0 V1 K) K 0 := by
  unfold bk1 bk2
  apply List.map_congr_left
  intro i hi
  rw [List.mem_range] at hi
  rw [List.take_length]
  by_cases h : (i : Int) ∈ difI V0 V1 K
  · have := mem_difI.1 h
    simp [h, this.2.1]
  · have h2 : ¬ (isB V1 i = true ∧ isB V0 i = false) := fun hh => h (mem_difI.2 ⟨hi, hh.1, hh.2⟩)
    simp only [h, decide_false, Bool.or_false, List.take_zero, List.not_mem_nil, Bool.not_false, Bool.and_true]
    cases e1 : isB V0 i <;> cases e2 : isB V1 i <;> simp_all
theorem bk2_step {V0 V1 : List Bool} {K j : Nat} {x : Int} (h : (difO V0 V1 K)[j]? = some x) :
    ∃ i : Nat, x = i ∧ i < K ∧ (bk2 V0 V1 (difO V0 V1 K) K j).getD i false = true ∧ (bk2 V0 V1 (difO V0 V1 K) K j).set i false = bk2 V0 V1 (difO V0 V1 K) K (j + 1) := by
  rw [difO_eq] at h ⊢
  have hm := List.mem_of_getElem? h
  have hm0 := hm
  unfold difI at hm0
  obtain ⟨i, hi, rfl⟩ := List.mem_map.1 hm0
  have h1 := mem_difI.1 hm
  have h2 := nodup_take (difI_nodup V1 V0 K) h
  refine ⟨i, rfl, h1.1, ?_, ?_⟩
  · unfold bk2
    rw [range_getD h1.1, h1.2.1]
    simpa using h2
  · unfold bk2
    rw [take_snoc h]
    refine range_set h1.1 ?_ (fun k hk hki => ?_)
    · simp
    · have h3 : ¬ (k : Int) = Int.ofNat i := fun e => hki (Int.ofNat.inj e)
      have h4 : ((k : Int) ∈ (difI V1 V0 K).take j ++ [Int.ofNat i]) ↔ (k : Int) ∈ (difI V1 V0 K).take j := by simp only [List.mem_append, List.mem_singleton, h3, or_false]
      simp only [h4]
theorem bk2_end {V0 V1 : List Bool} {K : Nat} (h : V1.length = K) : bk2 V0 V1 (difO V0 V1 K) K (difO V0 V1 K).length = V1 := by
  conv => rhs; rw [← range_isB h]
  unfold bk2
  apply List.map_congr_left
  intro i hi
  rw [List.mem_range] at hi
  rw [List.take_length, difO_eq]
  by_cases hm : (i : Int) ∈ difI V1 V0 K
  · have := mem_difI.1 hm
    simp [hm, this.2.1, this.2.2]
  · have h2 : ¬ (isB V0 i = true ∧ isB V1 i = false) := fun hh => hm (mem_difI.2 ⟨hi, hh.1, hh.2⟩)
    simp only [hm, decide_false, Bool.not_false, Bool.and_true]
    cases e1 : isB V0 i <;> cases e2 : isB V1 i <;> simp_all
end Go.Proofs.Ytplmgcbjfmdebaa
