/- The active set, in plain Lean: a heap of numbered amounts, the richest one on top; what is put in comes out the richest first. Conditions stand in each lemma. -/
import Derived.Test.YtplmgcbjfmdebaaExt
set_option linter.unusedVariables false
set_option linter.unusedSimpArgs false
namespace Go.Proofs.Ytplmgcbjfmdebaa

/-- one is richer than another: more tokens, or as many and a lesser number -/
def rich (a b : Int × Int) : Prop := b.2 < a.2 ∨ a.2 = b.2 ∧ a.1 < b.1
instance (a b : Int × Int) : Decidable (rich a b) := by unfold rich; infer_instance
theorem rich_asymm {a b : Int × Int} (h : rich a b) : ¬ rich b a := by unfold rich at *; omega
theorem rich_irr (a : Int × Int) : ¬ rich a a := by unfold rich; omega
theorem rich_trans {a b c : Int × Int} (h : rich a b) (k : rich b c) : rich a c := by unfold rich at *; omega
theorem rich_neg {a b c : Int × Int} (h : ¬ rich a b) (k : ¬ rich b c) : ¬ rich a c := by unfold rich at *; omega
theorem rich_eq {a b : Int × Int} (h : ¬ rich a b) (k : ¬ rich b a) : a = b := by
  obtain ⟨a1, a2⟩ := a
  obtain ⟨b1, b2⟩ := b
  unfold rich at *
  simp only at h k
  have : a1 = b1 ∧ a2 = b2 := by omega
  rw [this.1, this.2]
/-- each one is not richer than the one above it -/
def HeapL (l : List (Int × Int)) : Prop := ∀ k a b, 0 < k → l[k]? = some a → l[(k - 1) / 2]? = some b → ¬ rich a b
/-- two change places -/
def swp (l : List (Int × Int)) (i j : Nat) : List (Int × Int) := (l.set i (l.getD j (0, 0))).set j (l.getD i (0, 0))
theorem swp_len (l : List (Int × Int)) (i j : Nat) : (swp l i j).length = l.length := by unfold swp; simp
theorem getD_of {l : List (Int × Int)} {i : Nat} {a : Int × Int} (h : l[i]? = some a) : l.getD i (0, 0) = a := by rw [List.getD_eq_getElem?_getD, h]; rfl
theorem swp_get {l : List (Int × Int)} {i j : Nat} {a b : Int × Int} (hi : l[i]? = some a) (hj : l[j]? = some b) (k : Nat) : (swp l i j)[k]? = if k = j then some a else if k = i then some b else l[k]? := by
  have h1 := (List.getElem?_eq_some_iff.1 hi).1
  have h2 := (List.getElem?_eq_some_iff.1 hj).1
  unfold swp
  rw [getD_of hi, getD_of hj, List.getElem?_set, List.getElem?_set, List.length_set]
  by_cases e : k = j
  · subst e; simp [h2]
  · rw [if_neg (fun h => e h.symm), if_neg e]
    by_cases e2 : k = i
    · subst e2; simp [h1]
    · rw [if_neg (fun h => e2 h.symm), if_neg e2]
theorem swp_perm {l : List (Int × Int)} {i j : Nat} (hi : i < l.length) (hj : j < l.length) : (swp l i j).Perm l := by
  unfold swp
  have e1 : l.getD j (0, 0) = l[j] := by rw [List.getD_eq_getElem?_getD, List.getElem?_eq_getElem hj]; rfl
  have e2 : l.getD i (0, 0) = l[i] := by rw [List.getD_eq_getElem?_getD, List.getElem?_eq_getElem hi]; rfl
  rw [e1, e2]
  exact List.set_set_perm hi hj
/-- a heap but for the one at j, which may be richer than the one above it -/
def UpOk (l : List (Int × Int)) (j : Nat) : Prop :=
  (∀ k a b, 0 < k → k ≠ j → l[k]? = some a → l[(k - 1) / 2]? = some b → ¬ rich a b) ∧
  ∀ k a b, 0 < j → 0 < k → (k - 1) / 2 = j → l[k]? = some a → l[(j - 1) / 2]? = some b → ¬ rich a b
theorem up_start {l : List (Int × Int)} (h : HeapL l) (x : Int × Int) : UpOk (l ++ [x]) l.length := by
  constructor
  · intro k a b hk hkj ha hb
    have hl := (List.getElem?_eq_some_iff.1 ha).1
    simp at hl
    rw [List.getElem?_append_left (by omega)] at ha hb
    exact h k a b hk ha hb
  · intro k a b hj hk hp ha hb
    have hl := (List.getElem?_eq_some_iff.1 ha).1
    simp at hl
    omega
theorem up_done {l : List (Int × Int)} {j : Nat} (h : UpOk l j) (hj : j = 0 ∨ ∀ a b, l[j]? = some a → l[(j - 1) / 2]? = some b → ¬ rich a b) : HeapL l := by
  intro k a b hk ha hb
  by_cases e : k = j
  · subst e
    rcases hj with h0 | hj
    · omega
    · exact hj a b ha hb
  · exact h.1 k a b hk e ha hb
theorem up_step {l : List (Int × Int)} {j : Nat} {a b : Int × Int} (h : UpOk l j) (hj : 0 < j) (ha : l[j]? = some a) (hb : l[(j - 1) / 2]? = some b) (hr : rich a b) : UpOk (swp l ((j - 1) / 2) j) ((j - 1) / 2) := by
  obtain ⟨i, hi⟩ : ∃ i, i = (j - 1) / 2 := ⟨_, rfl⟩
  rw [← hi] at hb ⊢
  have hij : i < j := by omega
  have hg := swp_get hb ha
  constructor
  · intro k x y hk hki hx hy
    rw [hg] at hx hy
    by_cases e1 : k = j
    · subst e1
      rw [if_pos rfl] at hx
      rw [← hi, if_neg (by omega), if_pos rfl] at hy
      obtain rfl : b = x := by simpa using hx
      obtain rfl : a = y := by simpa using hy
      exact rich_asymm hr
    · rw [if_neg e1, if_neg hki] at hx
      by_cases e2 : (k - 1) / 2 = j
      · rw [if_pos e2] at hy
        obtain rfl : b = y := by simpa using hy
        exact h.2 k x b hj hk e2 hx (by rw [← hi]; exact hb)
      · rw [if_neg e2] at hy
        by_cases e3 : (k - 1) / 2 = i
        · rw [if_pos e3] at hy
          obtain rfl : a = y := by simpa using hy
          intro hxa
          exact h.1 k x b hk e1 hx (by rw [e3]; exact hb) (rich_trans hxa hr)
        · rw [if_neg e3] at hy
          exact h.1 k x y hk e1 hx hy
  · intro k x y hi0 hk hp hx hy
    rw [hg] at hx hy
    rw [if_neg (by omega), if_neg (by omega)] at hy
    have hby := h.1 i b y hi0 (by omega) hb hy
    by_cases e1 : k = j
    · rw [if_pos e1] at hx
      obtain rfl : b = x := by simpa using hx
      exact hby
    · rw [if_neg e1, if_neg (by omega)] at hx
      exact rich_neg (h.1 k x b hk e1 hx (by rw [hp]; exact hb)) hby
/-- the first n a heap but for the one at i, which may be poorer than those below it -/
def DownOk (l : List (Int × Int)) (n i : Nat) : Prop :=
  (∀ k a b, 0 < k → k < n → (k - 1) / 2 ≠ i → l[k]? = some a → l[(k - 1) / 2]? = some b → ¬ rich a b) ∧
  ∀ k a b, 0 < i → 0 < k → k < n → (k - 1) / 2 = i → l[k]? = some a → l[(i - 1) / 2]? = some b → ¬ rich a b
theorem down_start {l : List (Int × Int)} (h : HeapL l) (n : Nat) {a b : Int × Int} (ha : l[0]? = some a) (hb : l[n]? = some b) : DownOk (swp l 0 n) n 0 := by
  constructor
  · intro k x y hk hkn hp hx hy
    rw [swp_get ha hb, if_neg (by omega), if_neg (by omega)] at hx hy
    exact h k x y hk hx hy
  · intro k x y hi; omega
theorem down_done {l : List (Int × Int)} {n i : Nat} (h : DownOk l n i) (hi : ∀ k a b, 0 < k → k < n → (k - 1) / 2 = i → l[k]? = some a → l[i]? = some b → ¬ rich a b) : HeapL (l.take n) := by
  intro k a b hk ha hb
  have hl := (List.getElem?_eq_some_iff.1 ha).1
  rw [List.length_take] at hl
  rw [List.getElem?_take_of_lt (by omega)] at ha hb
  by_cases e : (k - 1) / 2 = i
  · exact hi k a b hk (by omega) e ha (by rw [← e]; exact hb)
  · exact h.1 k a b hk (by omega) e ha hb
theorem down_step {l : List (Int × Int)} {n i j : Nat} {a b : Int × Int} (h : DownOk l n i) (hj : 0 < j) (hjn : j < n) (hp : (j - 1) / 2 = i) (ha : l[j]? = some a) (hb : l[i]? = some b) (hr : rich a b)
    (ho : ∀ k x, 0 < k → k < n → (k - 1) / 2 = i → l[k]? = some x → ¬ rich x a) : DownOk (swp l i j) n j := by
  have hij : i < j := by omega
  have hg := swp_get hb ha
  constructor
  · intro k x y hk hkn hpj hx hy
    rw [hg] at hx hy
    rw [if_neg hpj] at hy
    by_cases e1 : k = j
    · subst e1
      rw [if_pos rfl] at hx
      rw [if_pos hp] at hy
      obtain rfl : b = x := by simpa using hx
      obtain rfl : a = y := by simpa using hy
      exact rich_asymm hr
    · rw [if_neg e1] at hx
      by_cases e2 : (k - 1) / 2 = i
      · rw [if_pos e2] at hy
        rw [if_neg (by omega)] at hx
        obtain rfl : a = y := by simpa using hy
        exact ho k x hk hkn e2 hx
      · rw [if_neg e2] at hy
        by_cases e3 : k = i
        · subst e3
          rw [if_pos rfl] at hx
          obtain rfl : a = x := by simpa using hx
          exact h.2 j a y hk hj hjn hp ha hy
        · rw [if_neg e3] at hx
          exact h.1 k x y hk hkn e2 hx hy
  · intro k x y hj0 hk hkn hpk hx hy
    rw [hg] at hx hy
    rw [hp, if_neg (by omega), if_pos rfl] at hy
    rw [if_neg (by omega), if_neg (by omega)] at hx
    obtain rfl : a = y := by simpa using hy
    exact h.1 k x a hk hkn (by omega) hx (by rw [hpk]; exact ha)
theorem heap_top {l : List (Int × Int)} (h : HeapL l) {t : Int × Int} (ht : l[0]? = some t) : ∀ (k : Nat) (a : Int × Int), l[k]? = some a → ¬ rich a t := by
  intro k
  induction k using Nat.strongRecOn with
  | ind k ih =>
    intro a ha
    by_cases e : k = 0
    · subst e
      obtain rfl : t = a := by rw [ht] at ha; simpa using ha
      exact rich_irr t
    · have hl := (List.getElem?_eq_some_iff.1 ha).1
      have hb := List.getElem?_eq_getElem (l := l) (i := (k - 1) / 2) (by omega)
      exact rich_neg (h k a _ (by omega) ha hb) (ih ((k - 1) / 2) (by omega) _ hb)
theorem heap_pop {l l' : List (Int × Int)} {t : Int × Int} (h : HeapL l) (ht : l[0]? = some t) (hp : l'.Perm l) {n : Nat} (hn : l.length = n + 1) (hl : l'[n]? = some t) : (t :: l'.take n).Perm l ∧ ∀ x ∈ l'.take n, ¬ rich x t := by
  have hln : l'.length = n + 1 := by rw [hp.length_eq, hn]
  have e : l' = l'.take n ++ [t] := by
    have := List.take_succ_eq_append_getElem (l := l') (i := n) (by omega)
    rw [List.take_of_length_le (by omega)] at this
    rw [(List.getElem?_eq_some_iff.1 hl).2] at this
    exact this
  have hq : (t :: l'.take n).Perm l' := by
    conv => rhs; rw [e]
    exact (List.perm_append_singleton t (l'.take n)).symm
  refine ⟨hq.trans hp, fun x hx => ?_⟩
  have hx2 : x ∈ l := (hq.trans hp).subset (List.mem_cons_of_mem _ hx)
  obtain ⟨k, hk, rfl⟩ := List.getElem_of_mem hx2
  exact heap_top h ht k _ (List.getElem?_eq_getElem hk)
end Go.Proofs.Ytplmgcbjfmdebaa
