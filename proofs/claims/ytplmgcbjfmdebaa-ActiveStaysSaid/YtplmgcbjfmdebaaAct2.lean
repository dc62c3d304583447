/- The active set, in plain Lean: who is how far ahead, the rank, who is in. Conditions stand in each lemma. -/
import Derived.Test.YtplmgcbjfmdebaaAct1
set_option linter.unusedVariables false
set_option linter.unusedSimpArgs false
namespace Go.Proofs.Ytplmgcbjfmdebaa

/-- what is at a place of a list -/
def tk (ts : List Int) (i : Nat) : Int := ts.getD i 0
def isB (ms : List Bool) (i : Nat) : Bool := ms.getD i false
def allN (ts : List Int) (ms : List Bool) : Nat := max ts.length ms.length
/-- does one count -/
def cnt (ts : List Int) (ms : List Bool) (i : Nat) : Bool := isB ms i && decide (0 < tk ts i)
/-- those that count -/
def pr (ts : List Int) (i : Nat) : Int × Int := ((i : Int), tk ts i)
def cntL (ts : List Int) (ms : List Bool) (n : Nat) : List (Int × Int) := ((List.range n).filter (cnt ts ms)).map (pr ts)
/-- how many are richer -/
def aheadT (ts : List Int) (ms : List Bool) (m i : Nat) : Nat := (List.range m).countP (fun k => cnt ts ms k && decide (rich (pr ts k) (pr ts i)))
def aheadL (ts : List Int) (ms : List Bool) (i : Nat) : Nat := aheadT ts ms (allN ts ms) i
/-- the rank: one that counts and has n ahead of it stands at n -/
def rankN (ts : List Int) (ms : List Bool) (n m : Nat) : List Int := ((List.range m).filter fun i => cnt ts ms i && decide (aheadL ts ms i = n)).map Int.ofNat
def rankT (ts : List Int) (ms : List Bool) (m : Nat) : List Int := (List.range m).flatMap fun n => rankN ts ms n (allN ts ms)
def rankV (ts : List Int) (ms : List Bool) : List Int := rankT ts ms (allN ts ms)
/-- who is in -/
def chooV (ts : List Int) (ms : List Bool) (most : Int) : List Bool := (List.range (allN ts ms)).map fun i => cnt ts ms i && decide ((aheadL ts ms i : Int) < most)
/-- who is in after k rounds -/
def chooT (ts : List Int) (ms : List Bool) (most : Int) (k : Nat) : List Bool := (List.range (allN ts ms)).map fun i => cnt ts ms i && decide (aheadL ts ms i < k) && decide ((aheadL ts ms i : Int) < most)

theorem pr_inj {ts : List Int} {i j : Nat} (h : pr ts i = pr ts j) : i = j := by unfold pr at h; injection h with h1 h2; omega
theorem cntL_snoc (ts : List Int) (ms : List Bool) (n : Nat) : cntL ts ms (n + 1) = cntL ts ms n ++ (if cnt ts ms n then [pr ts n] else []) := by
  unfold cntL
  rw [List.range_succ, List.filter_append, List.map_append]
  by_cases h : cnt ts ms n <;> simp [h]
theorem cntL_nodup (ts : List Int) (ms : List Bool) (n : Nat) : (cntL ts ms n).Nodup := by
  unfold cntL
  apply List.Pairwise.map (R := fun a b => a ≠ b)
  · intro a b h e; exact h (pr_inj e)
  · exact (List.nodup_range (n := n)).filter _
theorem cntL_mem {ts : List Int} {ms : List Bool} {n : Nat} {x : Int × Int} (h : x ∈ cntL ts ms n) : ∃ i, i < n ∧ cnt ts ms i = true ∧ x = pr ts i := by
  unfold cntL at h
  obtain ⟨i, hi, rfl⟩ := List.mem_map.1 h
  rw [List.mem_filter, List.mem_range] at hi
  exact ⟨i, hi.1, hi.2, rfl⟩
theorem mem_cntL {ts : List Int} {ms : List Bool} {n i : Nat} (h : i < n) (hc : cnt ts ms i = true) : pr ts i ∈ cntL ts ms n :=
  List.mem_map.2 ⟨i, List.mem_filter.2 ⟨List.mem_range.2 h, hc⟩, rfl⟩
theorem cntL_len_le (ts : List Int) (ms : List Bool) (n : Nat) : (cntL ts ms n).length ≤ n := by
  unfold cntL
  rw [List.length_map]
  exact Nat.le_trans (List.length_filter_le _ _) (by simp)
theorem cntL_len (ts : List Int) (ms : List Bool) (n : Nat) : (cntL ts ms n).length = (List.range n).countP (cnt ts ms) := by
  unfold cntL
  rw [List.length_map, List.countP_eq_length_filter]
/-- those that count, the richest first -/
def Sorted (l : List (Int × Int)) : Prop := l.Pairwise fun a b => ¬ rich b a
theorem sorted_count {S : List (Int × Int)} (hs : Sorted S) (hd : S.Nodup) {n : Nat} {x : Int × Int} (hx : S[n]? = some x) : S.countP (fun p => decide (rich p x)) = n := by
  obtain ⟨hn, he⟩ := List.getElem?_eq_some_iff.1 hx
  have e : S = S.take n ++ x :: S.drop (n + 1) := by
    conv => lhs; rw [← List.take_append_drop n S]
    rw [List.drop_eq_getElem_cons hn, he]
  have hlen : (S.take n).length = n := by rw [List.length_take]; omega
  unfold Sorted at hs
  unfold List.Nodup at hd
  rw [e] at hs hd
  generalize S.take n = a at *
  generalize S.drop (n + 1) = b at *
  rw [e, List.countP_append]
  rw [List.pairwise_append] at hs hd
  have h1 : a.countP (fun p => decide (rich p x)) = a.length := by
    rw [List.countP_eq_length]
    intro p hp
    have q1 := hs.2.2 p hp x (List.mem_cons_self ..)
    have q2 := hd.2.2 p hp x (List.mem_cons_self ..)
    simp only [decide_eq_true_eq]
    exact Classical.byContradiction fun hh => q2 (rich_eq hh q1)
  have h2 : (x :: b).countP (fun p => decide (rich p x)) = 0 := by
    rw [List.countP_eq_zero]
    intro p hp
    rcases List.mem_cons.1 hp with rfl | hp
    · simpa using rich_irr p
    · simpa using (List.pairwise_cons.1 hs.2.1).1 p hp
  rw [h1, h2, hlen]
  omega
theorem ahead_count (ts : List Int) (ms : List Bool) (i : Nat) : aheadL ts ms i = (cntL ts ms (allN ts ms)).countP (fun p => decide (rich p (pr ts i))) := by
  unfold aheadL aheadT cntL
  rw [List.countP_map, List.countP_filter]
  congr 1
  funext k
  simp [Bool.and_comm]
theorem filter_one {l : List Nat} {p : Nat → Bool} {a : Nat} (hd : l.Nodup) (ha : a ∈ l) (h : ∀ x ∈ l, p x = true ↔ x = a) : l.filter p = [a] := by
  obtain ⟨s, t, rfl⟩ := List.append_of_mem ha
  have hd2 := List.pairwise_append.1 hd
  rw [List.filter_append, List.filter_cons]
  have h1 : s.filter p = [] := by
    rw [List.filter_eq_nil_iff]
    intro x hx hp
    have := (h x (List.mem_append_left _ hx)).1 hp
    exact hd2.2.2 x hx a (List.mem_cons_self ..) this
  have h2 : t.filter p = [] := by
    rw [List.filter_eq_nil_iff]
    intro x hx hp
    have := (h x (List.mem_append_right _ (List.mem_cons_of_mem _ hx))).1 hp
    exact (List.pairwise_cons.1 hd2.2.1).1 x hx this.symm
  rw [h1, h2, if_pos ((h a ha).2 rfl)]
  rfl
theorem flat_range {α β : Type} (f : α → β) : ∀ (S : List α) (m : Nat), S.length ≤ m → (List.range m).flatMap (fun n => ((S[n]?).map f).toList) = S.map f
  | [], m, _ => by simp
  | a :: S, m, h => by
    obtain ⟨m, rfl⟩ : ∃ k, m = k + 1 := ⟨m - 1, by simp at h; omega⟩
    rw [List.range_succ_eq_map, List.flatMap_cons, List.flatMap_map]
    simp only [List.getElem?_cons_zero, Option.map_some, Option.toList_some, List.getElem?_cons_succ, List.map_cons, List.singleton_append]
    rw [flat_range f S m (by simp at h; omega)]
theorem sorted_at {ts : List Int} {ms : List Bool} {S : List (Int × Int)} (hp : S.Perm (cntL ts ms (allN ts ms))) (hs : Sorted S) {n : Nat} {x : Int × Int} (hx : S[n]? = some x) :
    ∃ i, i < allN ts ms ∧ cnt ts ms i = true ∧ x = pr ts i ∧ aheadL ts ms i = n := by
  obtain ⟨i, h1, h2, h3⟩ := cntL_mem (hp.subset (List.mem_of_getElem? hx))
  refine ⟨i, h1, h2, h3, ?_⟩
  rw [ahead_count, ← hp.countP_eq, ← h3]
  exact sorted_count hs (hp.nodup_iff.2 (cntL_nodup _ _ _)) hx
theorem sorted_of {ts : List Int} {ms : List Bool} {S : List (Int × Int)} (hp : S.Perm (cntL ts ms (allN ts ms))) (hs : Sorted S) {i : Nat} (hi : i < allN ts ms) (hc : cnt ts ms i = true) : S[aheadL ts ms i]? = some (pr ts i) := by
  obtain ⟨n, hn, he⟩ := List.getElem_of_mem (hp.mem_iff.2 (mem_cntL hi hc))
  have hx : S[n]? = some (pr ts i) := by rw [List.getElem?_eq_getElem hn, he]
  obtain ⟨j, _, _, h3, h4⟩ := sorted_at hp hs hx
  have := pr_inj h3
  subst this
  rw [h4]; exact hx
theorem rank_sorted {ts : List Int} {ms : List Bool} {S : List (Int × Int)} (hp : S.Perm (cntL ts ms (allN ts ms))) (hs : Sorted S) : rankV ts ms = S.map (·.1) := by
  rw [← flat_range (·.1) S (allN ts ms) (by rw [hp.length_eq]; exact cntL_len_le _ _ _)]
  unfold rankV rankT
  congr 1
  funext n
  unfold rankN
  rcases hx : S[n]? with _ | x
  · simp only [Option.map_none, Option.toList_none, List.map_eq_nil_iff, List.filter_eq_nil_iff]
    intro i hi h
    rw [List.mem_range] at hi
    simp only [Bool.and_eq_true, decide_eq_true_eq] at h
    have := sorted_of hp hs hi h.1
    rw [h.2, hx] at this
    cases this
  · obtain ⟨i, h1, h2, h3, h4⟩ := sorted_at hp hs hx
    rw [filter_one (a := i) List.nodup_range (List.mem_range.2 h1)]
    · simp [h3, pr]
    · intro j hj
      rw [List.mem_range] at hj
      simp only [Bool.and_eq_true, decide_eq_true_eq]
      constructor
      · intro h
        have := sorted_of hp hs hj h.1
        rw [h.2, hx, h3] at this
        exact pr_inj (Option.some.inj this).symm
      · rintro rfl
        exact ⟨h2, h4⟩
theorem sorted_ex (l : List (Int × Int)) : ∃ S, S.Perm l ∧ Sorted S := by
  refine ⟨l.mergeSort (fun a b => !decide (rich b a)), List.mergeSort_perm _ _, ?_⟩
  have := List.pairwise_mergeSort (le := fun a b => !decide (rich b a)) (by
    intro a b c h1 h2
    simp only [Bool.not_eq_true', decide_eq_false_iff_not] at *
    exact rich_neg h2 h1) (by
    intro a b
    by_cases h : rich b a
    · have := rich_asymm h; simp [this]
    · simp [h]) l
  exact this.imp (by intro a b h; simpa using h)
/-- the rank's length, and what stands in it -/
theorem rank_len (ts : List Int) (ms : List Bool) : (rankV ts ms).length = (cntL ts ms (allN ts ms)).length := by
  obtain ⟨S, hp, hs⟩ := sorted_ex (cntL ts ms (allN ts ms))
  rw [rank_sorted hp hs, List.length_map, hp.length_eq]
theorem rank_at {ts : List Int} {ms : List Bool} {n : Nat} {x : Int} (hx : (rankV ts ms)[n]? = some x) : ∃ i : Nat, x = i ∧ i < allN ts ms ∧ cnt ts ms i = true ∧ aheadL ts ms i = n := by
  obtain ⟨S, hp, hs⟩ := sorted_ex (cntL ts ms (allN ts ms))
  rw [rank_sorted hp hs, List.getElem?_map] at hx
  obtain ⟨y, hy, rfl⟩ := Option.map_eq_some_iff.1 hx
  obtain ⟨i, h1, h2, h3, h4⟩ := sorted_at hp hs hy
  exact ⟨i, by rw [h3]; rfl, h1, h2, h4⟩
theorem rank_of {ts : List Int} {ms : List Bool} {i : Nat} (hi : i < allN ts ms) (hc : cnt ts ms i = true) : (rankV ts ms)[aheadL ts ms i]? = some (i : Int) := by
  obtain ⟨S, hp, hs⟩ := sorted_ex (cntL ts ms (allN ts ms))
  rw [rank_sorted hp hs, List.getElem?_map, sorted_of hp hs hi hc]
  rfl
theorem ahead_lt {ts : List Int} {ms : List Bool} {i : Nat} (hi : i < allN ts ms) (hc : cnt ts ms i = true) : aheadL ts ms i < (rankV ts ms).length := (List.getElem?_eq_some_iff.1 (rank_of hi hc)).1
theorem ahead_inj {ts : List Int} {ms : List Bool} {i j : Nat} (hi : i < allN ts ms) (hc : cnt ts ms i = true) (hj : j < allN ts ms) (hd : cnt ts ms j = true) (h : aheadL ts ms i = aheadL ts ms j) : i = j := by
  have h1 := rank_of hi hc
  have h2 := rank_of hj hd
  rw [h, h2] at h1
  have := Option.some.inj h1
  omega
theorem choo_zero (ts : List Int) (ms : List Bool) (most : Int) : chooT ts ms most 0 = List.replicate (allN ts ms) false := by
  unfold chooT
  apply List.ext_getElem
  · simp
  · intro k h1 h2; simp
theorem choo_len (ts : List Int) (ms : List Bool) (most : Int) (k : Nat) : (chooT ts ms most k).length = allN ts ms := by unfold chooT; simp
theorem chooV_len (ts : List Int) (ms : List Bool) (most : Int) : (chooV ts ms most).length = allN ts ms := by unfold chooV; simp
theorem choo_get {ts : List Int} {ms : List Bool} {most : Int} {k i : Nat} (h : i < allN ts ms) : (chooT ts ms most k)[i]? = some (cnt ts ms i && decide (aheadL ts ms i < k) && decide ((aheadL ts ms i : Int) < most)) := by
  unfold chooT
  rw [List.getElem?_map, List.getElem?_range h]
  rfl
theorem chooV_get {ts : List Int} {ms : List Bool} {most : Int} {i : Nat} (h : i < allN ts ms) : (chooV ts ms most)[i]? = some (cnt ts ms i && decide ((aheadL ts ms i : Int) < most)) := by
  unfold chooV
  rw [List.getElem?_map, List.getElem?_range h]
  rfl
theorem choo_step {ts : List Int} {ms : List Bool} {most : Int} {k i : Nat} (h : (rankV ts ms)[k]? = some (i : Int)) : (chooT ts ms most k).set i (decide ((k : Int) < most)) = chooT ts ms most (k + 1) := by
  obtain ⟨i', e, hi, hc, ha⟩ := rank_at h
  obtain rfl : i = i' := by omega
  apply List.ext_getElem?
  intro j
  by_cases h2 : j < allN ts ms
  · rw [List.getElem?_set, choo_get h2, choo_get h2, choo_len, if_pos hi]
    by_cases e : i = j
    · subst e
      rw [if_pos rfl, hc, ha]
      simp
    · rw [if_neg e]
      by_cases hj : cnt ts ms j = true
      · have : aheadL ts ms j ≠ k := fun hh => e (ahead_inj hi hc h2 hj (by omega))
        have : (aheadL ts ms j < k) ↔ (aheadL ts ms j < k + 1) := by omega
        simp only [hj, Bool.true_and, this]
      · simp [hj]
  · rw [List.getElem?_eq_none (by rw [List.length_set, choo_len]; omega), List.getElem?_eq_none (by rw [choo_len]; omega)]
theorem choo_end (ts : List Int) (ms : List Bool) (most : Int) : chooT ts ms most (rankV ts ms).length = chooV ts ms most := by
  unfold chooT chooV
  apply List.map_congr_left
  intro i hi
  rw [List.mem_range] at hi
  by_cases hc : cnt ts ms i = true
  · have := ahead_lt hi hc
    simp [hc, this]
  · simp [hc]
end Go.Proofs.Ytplmgcbjfmdebaa
