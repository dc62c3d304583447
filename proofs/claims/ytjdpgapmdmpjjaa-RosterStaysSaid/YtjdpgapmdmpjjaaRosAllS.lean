/- The kit's Pick(x, n) returns x modulo n, from 0 on below n, for n above 0 (any x that fits int). Rosters: what each act may make of one that may be. Conditions stand in each lemma. law16: an act, and whether a validator may come to be so. Conditions stand in each lemma. law16: what an act does. Conditions stand in each lemma. law16: RosterStays returns true, whatever comes in. Conditions: none but those of the arguments' types. -/
import Derived.Test.YtjdpgapmdmpjjaaExt
import Derived.Test.YtjdpgapmdmpjjaaRows
import Derived.Lib.Hide
import Derived.WalkSpells
import Derived.WalkLawsBesides
import Derived.IntWalk
import Derived.Test.YtjdpgapmdmpjjaaRosM
import Derived.Test.YtjdpgapmdmpjjaaRosKnownW
import Derived.Test.YtjdpgapmdmpjjaaRosTurnsW
import Derived.Test.YtjdpgapmdmpjjaaRec4
set_option linter.unusedVariables false
set_option linter.unusedSimpArgs false
namespace Go.Proofs.Ytjdpgapmdmpjjaa
section
open Go.RowKit

theorem kPick_any (x n : Int) (hx : -9223372036854775808 ≤ x) (hx2 : x ≤ 9223372036854775807) (hn : 0 < n) (hn2 : n ≤ 9223372036854775807) (w : World) :
    Calls Try.prog 50 #[.int .i64 x, .int .i64 n] w fun e w' => e = .returned (.int .i64 (x % n)) ∧ w = w' := by
  have m0 := Int.emod_nonneg x (by omega : n ≠ 0)
  have m1 := Int.emod_lt_of_pos x hn
  obtain ⟨r, hr⟩ : ∃ r, r = x % n := ⟨_, rfl⟩
  rw [← hr] at m0 m1 ⊢
  by_cases h0 : 0 ≤ x
  · have e : x % n = r := hr.symm
    clear hr
    go_enter Try.func50, Try.ntmps50
    go_wp2
    go_ret
    exact ⟨ret_int e, rfl⟩
  · obtain ⟨t, ht⟩ : ∃ t, t = x.tmod n := ⟨_, rfl⟩
    have ht2 : t = -((-x) % n) := by
      rw [ht, show x = -(-x) from by omega, Int.neg_tmod, Int.tmod_eq_emod_of_nonneg (by omega)]
      simp
    have hd := Int.mul_ediv_add_emod (-x) n
    have q0 := Int.emod_nonneg (-x) (by omega : n ≠ 0)
    have q1 := Int.emod_lt_of_pos (-x) hn
    have hd2 := Int.mul_ediv_add_emod x n
    rw [← hr] at hd2
    have hcase : t < 0 ∧ r = t + n ∨ t = 0 ∧ r = 0 := by
      have key : n * ((-x) / n + x / n) = t - r := by rw [Int.mul_add]; omega
      rcases Int.lt_or_le t 0 with h | h
      · left
        refine ⟨h, ?_⟩
        have h1 : (-x) / n + x / n = -1 := by
          rcases Int.lt_trichotomy ((-x) / n + x / n) (-1) with g | g | g
          · have : n * ((-x) / n + x / n) ≤ n * (-2) := Int.mul_le_mul_of_nonneg_left (by omega) (by omega)
            omega
          · exact g
          · have : n * 0 ≤ n * ((-x) / n + x / n) := Int.mul_le_mul_of_nonneg_left (by omega) (by omega)
            omega
        rw [h1] at key
        omega
      · right
        have h0 : t = 0 := by omega
        refine ⟨h0, ?_⟩
        rcases Int.lt_trichotomy ((-x) / n + x / n) 0 with g | g | g
        · have : n * ((-x) / n + x / n) ≤ n * (-1) := Int.mul_le_mul_of_nonneg_left (by omega) (by omega)
          omega
        · rw [g] at key; omega
        · have : n * 1 ≤ n * ((-x) / n + x / n) := Int.mul_le_mul_of_nonneg_left (by omega) (by omega)
          omega
    have e : x.tmod n = t := ht.symm
    have t0 : -9223372036854775808 ≤ t ∧ t ≤ 0 := by omega
    obtain ⟨t0, t1⟩ := t0
    clear hr ht ht2 hd hd2 q0 q1 m0 m1
    rcases hcase with ⟨c1, c2⟩ | ⟨c1, c2⟩
    · have C := Lib.hid c2
      have b1 : t + n ≤ 9223372036854775807 := by omega
      have b2 : -9223372036854775808 ≤ t + n := by omega
      clear c2
      go_enter Try.func50, Try.ntmps50
      go_wp2
      go_ret
      exact ⟨ret_int (by rw [C.out]), rfl⟩
    · subst c1
      subst c2
      go_enter Try.func50, Try.ntmps50
      go_wp2
      go_ret
      exact ⟨rfl, rfl⟩
end
section
open Go.RowKit

/-- a validator may be, whoever else is there -/
def Val1 (x : (Int × Int × Int × Int × Bool × Bool)) : Prop := 0 ≤ x.1 ∧ x.1 < 64 ∧ x.2.1 ≠ 0 ∧ 1 ≤ x.2.2.1 ∧ x.2.2.1 ≤ 4 ∧ 0 ≤ x.2.2.2.1 ∧ x.2.2.2.1 ≤ 4296015872 ∧ decide (x.2.2.1 = 4) = x.2.2.2.2.1 ∧ ¬ (x.2.2.2.1 = 0 ∧ (x.2.2.1 = 3 ∨ x.2.2.2.2.1 = true ∨ x.2.2.2.2.2 = true))
theorem oneV_iff {x : (Int × Int × Int × Int × Bool × Bool)} {db : Bool} : oneV x.1 x.2.1 x.2.2.1 x.2.2.2.1 x.2.2.2.2.1 x.2.2.2.2.2 db = 0 ↔ Val1 x ∧ db = false := by
  constructor
  · intro h
    obtain ⟨a, b, c, d, e, f, g, i, j⟩ := oneV_zero h
    refine ⟨⟨a, b, c, d, e, f, g, j, fun hh => ?_⟩, i⟩
    unfold oneV at h
    rw [if_neg (by omega), if_neg c, if_neg (by simp [i]), if_pos (.inr hh)] at h
    simp at h
  · rintro ⟨⟨a, b, c, d, e, f, g, j, k⟩, i⟩
    unfold oneV
    rw [if_neg (by omega), if_neg c, if_neg (by simp [i]), if_neg]
    rintro (h | h)
    · exact h j
    · exact k h
def Okk (l : List (Int × Int × Int × Int × Bool × Bool)) : Prop := (chkV l).1 = 0
theorem okk_iff {l : List (Int × Int × Int × Int × Bool × Bool)} : Okk l ↔ l.length ≤ 32 ∧ ∀ (j : Nat) x, l[j]? = some x → Val1 x ∧ x.1 ∉ (l.take j).map (·.1) := by
  unfold Okk
  constructor
  · intro h
    obtain ⟨_, h1, h2⟩ := chkV_zero h
    refine ⟨h1, fun j x hx => ?_⟩
    have h3 := h2 j (List.getElem?_eq_some_iff.1 hx).1
    unfold badV at h3
    rw [hx] at h3
    obtain ⟨h4, h5⟩ := oneV_iff.1 h3
    exact ⟨h4, by simpa using h5⟩
  · rintro ⟨h1, h2⟩
    rw [chkV_ok (by omega) (fun j hj => ?_)]
    obtain ⟨h4, h5⟩ := h2 j _ (List.getElem?_eq_getElem hj)
    unfold badV
    rw [List.getElem?_eq_getElem hj]
    exact oneV_iff.2 ⟨h4, by simpa using h5⟩
theorem okk_same {l m : List (Int × Int × Int × Int × Bool × Bool)} (h : Okk l) (hm : m.map (·.1) = l.map (·.1)) (hv : ∀ (j : Nat) x y, l[j]? = some x → m[j]? = some y → Val1 x → Val1 y) : Okk m := by
  have hl : m.length = l.length := by have := congrArg List.length hm; simpa using this
  obtain ⟨h1, h2⟩ := okk_iff.1 h
  refine okk_iff.2 ⟨by omega, fun j y hy => ?_⟩
  have hj := (List.getElem?_eq_some_iff.1 hy).1
  have hx := List.getElem?_eq_getElem (show j < l.length by omega)
  obtain ⟨h3, h4⟩ := h2 j _ hx
  refine ⟨hv j _ y hx hy h3, ?_⟩
  have e1 : (m.take j).map (·.1) = (l.take j).map (·.1) := by rw [List.map_take, List.map_take, hm]
  have e2 : y.1 = (l[j]'(by omega)).1 := by
    have h5 := congrArg (fun q => q[j]?) hm
    simp only [List.getElem?_map, hy, hx, Option.map_some] at h5
    exact Option.some.inj h5
  rw [e1, e2]
  exact h4
/-- what an act may make of a validator -/
def Steps (a b : (Int × Int × Int × Int × Bool × Bool)) (kind h : Int) : Prop :=
  b.1 = a.1 ∧ b.2.1 = a.2.1 ∧ a.2.2.2.1 ≤ b.2.2.2.1 ∧ (a.2.2.1 = 4 → b = a) ∧ (a.2.2.2.2.1 = true → b.2.2.2.2.1 = true) ∧ (a.2.2.2.2.2 = true → b.2.2.2.2.2 = true) ∧
  (a.2.2.1 = 3 → b.2.2.1 = 1 → kind = 3 ∧ a.2.2.2.1 ≤ h) ∧ (a.2.2.1 = 3 → b.2.2.1 ≠ 2) ∧ (b.2.2.2.2.1 = a.2.2.2.2.1 ∧ b.2.2.2.2.2 = a.2.2.2.2.2 ∨ kind = 4) ∧ a.2.2.2.2.1 = decide (a.2.2.1 = 4)
theorem Steps.refl {a : (Int × Int × Int × Int × Bool × Bool)} {kind h : Int} (ha : Val1 a) : Steps a a kind h :=
  ⟨rfl, rfl, Int.le_refl _, fun _ => rfl, id, id, fun h1 h2 => by omega, fun h1 => by omega, .inl ⟨rfl, rfl⟩, ha.2.2.2.2.2.2.2.1.symm⟩
def DoesP (now : List (Int × Int × Int × Int × Bool × Bool)) (kind h : Int) (L : List (Int × Int × Int × Int × Bool × Bool)) (e : Int) : Prop :=
  Okk L ∧ now.length ≤ L.length ∧ L.length ≤ now.length + 1 ∧ (e = 0 → ∀ (i : Nat) a b, now[i]? = some a → L[i]? = some b → Steps a b kind h)
def fixV (now : List (Int × Int × Int × Int × Bool × Bool)) (r : List (Int × Int × Int × Int × Bool × Bool) × Int) : List (Int × Int × Int × Int × Bool × Bool) × Int := if r.2 ≠ 0 then (now, r.2) else r
theorem does_bad {now : List (Int × Int × Int × Int × Bool × Bool)} (hn : Okk now) {kind h : Int} {r : List (Int × Int × Int × Int × Bool × Bool) × Int} (hr : r.2 ≠ 0) : DoesP now kind h (fixV now r).1 (fixV now r).2 := by
  unfold fixV
  rw [if_pos hr]
  exact ⟨hn, Nat.le_refl _, Nat.le_succ _, fun h0 => absurd h0 hr⟩
/-- one is changed -/
theorem does_set {now : List (Int × Int × Int × Int × Bool × Bool)} (hn : Okk now) {k : Nat} {x y : (Int × Int × Int × Int × Bool × Bool)} {kind h : Int} (hx : now[k]? = some x) (h1 : y.1 = x.1) (hy : Val1 y) (hs : Steps x y kind h) : DoesP now kind h (now.set k y) 0 := by
  have hk := (List.getElem?_eq_some_iff.1 hx).1
  refine ⟨okk_same hn ?_ ?_, by simp, by simp, fun _ i a b ha hb => ?_⟩
  · rw [List.map_set, h1]
    have e : (now.map (·.1))[k]? = some x.1 := by rw [List.getElem?_map, hx]; rfl
    obtain ⟨hk2, e2⟩ := List.getElem?_eq_some_iff.1 e
    rw [← e2, List.set_getElem_self]
  · intro j a b ha hb hv
    by_cases hj : k = j
    · subst hj
      rw [List.getElem?_set_self hk] at hb
      injection hb with hb
      subst hb
      exact hy
    · rw [List.getElem?_set_ne hj, ha] at hb
      injection hb with hb
      subst hb
      exact hv
  · by_cases hj : k = i
    · subst hj
      rw [List.getElem?_set_self hk] at hb
      injection hb with hb
      subst hb
      rw [hx] at ha
      injection ha with ha
      subst ha
      exact hs
    · rw [List.getElem?_set_ne hj, ha] at hb
      injection hb with hb
      subst hb
      exact Steps.refl ((okk_iff.1 hn).2 i a ha).1
theorem rfs_st {l : List (Int × Int × Int × Int × Bool × Bool)} {k : Nat} {x : (Int × Int × Int × Int × Bool × Bool)} (hx : l[k]? = some x) (h : rfsV l (k : Int) = 0) : x.2.2.1 ≠ 4 := by
  have hk := (List.getElem?_eq_some_iff.1 hx).1
  unfold rfsV at h
  rw [if_neg (by omega), show ((k : Int)).toNat = k from by simp, hx] at h
  intro h4
  rw [if_pos (by simp [h4])] at h
  simp at h
theorem does_jail {now : List (Int × Int × Int × Int × Bool × Bool)} (hn : Okk now) {v u kind h : Int} (hu : u ≤ 4296015872) : DoesP now kind h (fixV now (jailV now v u)).1 (fixV now (jailV now v u)).2 := by
  by_cases hr : (jailV now v u).2 = 0
  · have hr' := hr
    unfold jailV at hr
    rw [if_neg (fun hh => hh hn)] at hr
    by_cases h1 : rfsV now v = 0
    · rw [if_neg (by simpa using h1)] at hr
      by_cases h2 : 1 ≤ u ∧ u ≤ 4296015872
      · obtain ⟨k, rfl, hk⟩ := rfs_in h1
        have hx := List.getElem?_eq_getElem hk
        have hj := jailV_at (u := u) hn h1 h2 hx
        unfold fixV
        rw [if_neg (by simpa using hr'), hj]
        obtain ⟨a, b, c, d, e, f, g, i, j⟩ := ((okk_iff.1 hn).2 k _ hx).1
        have h4 := rfs_st hx h1
        have hat : (now[k]).2.2.2.2.1 = false := by rw [← i]; exact decide_eq_false h4
        refine does_set hn hx rfl ?_ ?_
        · refine ⟨a, b, c, (by show (1 : Int) ≤ 3; decide), (by show (3 : Int) ≤ 4; decide), ?_, ?_, ?_, ?_⟩
          · show 0 ≤ max _ _; omega
          · show max _ _ ≤ _; omega
          · rw [show (jailOne now[k] u).2.2.2.2.1 = now[k].2.2.2.2.1 from rfl, hat]; rfl
          · rintro ⟨h0, _⟩
            have : max (now[k]).2.2.2.1 u = 0 := h0
            omega
        · refine ⟨rfl, rfl, ?_, fun hh => absurd hh h4, id, id, fun _ hh => ?_, fun _ hh => ?_, .inl ⟨rfl, rfl⟩, i.symm⟩
          · show _ ≤ max _ _; omega
          · have : (3 : Int) = 1 := hh; omega
          · have : (3 : Int) = 2 := hh; omega
      · rw [if_pos h2] at hr; simp at hr
    · rw [if_pos h1] at hr; exact absurd hr h1
  · exact does_bad hn hr
theorem does_unj {now : List (Int × Int × Int × Int × Bool × Bool)} (hn : Okk now) {v b h : Int} : DoesP now 3 h (fixV now (unjV now v b h)).1 (fixV now (unjV now v b h)).2 := by
  by_cases hr : (unjV now v b h).2 = 0
  · by_cases ho : v < 0 ∨ v ≥ now.length
    · rw [unjV_out hn ho] at hr; simp at hr
    · obtain ⟨k, rfl⟩ : ∃ k : Nat, v = (k : Int) := ⟨v.toNat, by omega⟩
      have hk : k < now.length := by omega
      have hx := List.getElem?_eq_getElem hk
      have hr' := hr
      rw [unjV_at hn hx] at hr
      unfold unjX at hr
      by_cases h1 : (now[k]).1 = b
      · rw [if_neg (by simpa using h1)] at hr
        by_cases h2 : (now[k]).2.2.1 = 4
        · rw [if_pos h2] at hr; simp at hr
        · rw [if_neg h2] at hr
          by_cases h3 : (now[k]).2.2.1 = 3
          · rw [if_neg (by simpa using h3)] at hr
            by_cases h4 : h < (now[k]).2.2.2.1
            · rw [if_pos h4] at hr; simp at hr
            · unfold fixV
              rw [if_neg (by simpa using hr'), unjV_at hn hx]
              unfold unjX
              rw [if_neg (by simpa using h1), if_neg h2, if_neg (by simpa using h3), if_neg h4]
              obtain ⟨a, b, c, d, e, f, g, i, j⟩ := ((okk_iff.1 hn).2 k _ hx).1
              have hat : (now[k]).2.2.2.2.1 = false := by rw [← i]; exact decide_eq_false h2
              refine does_set hn hx rfl ?_ ?_
              · refine ⟨a, b, c, (by show (1 : Int) ≤ 1; decide), (by show (1 : Int) ≤ 4; decide), f, g, ?_, ?_⟩
                · rw [show (setSt now[k] 1).2.2.2.2.1 = now[k].2.2.2.2.1 from rfl, hat]; rfl
                · rintro ⟨h0, _⟩
                  exact j ⟨h0, .inl h3⟩
              · refine ⟨rfl, rfl, Int.le_refl _, fun hh => absurd hh h2, id, id, fun _ _ => ⟨rfl, by omega⟩, fun _ hh => ?_, .inl ⟨rfl, rfl⟩, i.symm⟩
                have : (1 : Int) = 2 := hh; omega
          · rw [if_pos h3] at hr; simp at hr
      · rw [if_pos h1] at hr; simp at hr
  · exact does_bad hn hr
theorem does_pun {now : List (Int × Int × Int × Int × Bool × Bool)} (hn : Okk now) {v cl u h : Int} (hu : u ≤ 4296015872) : DoesP now 4 h (fixV now (punV now v cl u)).1 (fixV now (punV now v cl u)).2 := by
  by_cases hr : (punV now v cl u).2 = 0
  · have hr' := hr
    unfold punV at hr
    by_cases h1 : pndV now v cl = 0
    · rw [if_neg (by simpa using h1)] at hr
      by_cases h2 : 1 ≤ u ∧ u ≤ 4296015872
      · obtain ⟨_, hf, hcl⟩ := pndV_zero h1
        obtain ⟨k, rfl, hk⟩ := rfs_in hf
        have hx := List.getElem?_eq_getElem hk
        have hj := punV_at (u := u) h1 h2 hx
        unfold fixV
        rw [if_neg (by simpa using hr'), hj]
        obtain ⟨a, b, c, d, e, f, g, i, j⟩ := ((okk_iff.1 hn).2 k _ hx).1
        have h4 := rfs_st hx hf
        have hat : (now[k]).2.2.2.2.1 = false := by rw [← i]; exact decide_eq_false h4
        by_cases hc : cl = 1
        · have e1 : punOne now[k] cl u = ((now[k]).1, (now[k]).2.1, 4, max (now[k]).2.2.2.1 u, true, (now[k]).2.2.2.2.2) := if_pos hc
          rw [e1]
          refine does_set hn hx rfl ?_ ?_
          · refine ⟨a, b, c, (by show (1 : Int) ≤ 4; decide), (by show (4 : Int) ≤ 4; decide), ?_, ?_, rfl, ?_⟩
            · show 0 ≤ max _ _; omega
            · show max _ _ ≤ _; omega
            · rintro ⟨h0, _⟩
              have : max (now[k]).2.2.2.1 u = 0 := h0
              omega
          · refine ⟨rfl, rfl, ?_, fun hh => absurd hh h4, fun _ => rfl, id, fun _ hh => ?_, fun _ hh => ?_, .inr rfl, i.symm⟩
            · show _ ≤ max _ _; omega
            · have : (4 : Int) = 1 := hh; omega
            · have : (4 : Int) = 2 := hh; omega
        · have e1 : punOne now[k] cl u = ((now[k]).1, (now[k]).2.1, 3, max (now[k]).2.2.2.1 u, (now[k]).2.2.2.2.1, true) := if_neg hc
          rw [e1]
          refine does_set hn hx rfl ?_ ?_
          · refine ⟨a, b, c, (by show (1 : Int) ≤ 3; decide), (by show (3 : Int) ≤ 4; decide), ?_, ?_, ?_, ?_⟩
            · show 0 ≤ max _ _; omega
            · show max _ _ ≤ _; omega
            · show decide ((3 : Int) = 4) = (now[k]).2.2.2.2.1
              rw [hat]; rfl
            · rintro ⟨h0, _⟩
              have : max (now[k]).2.2.2.1 u = 0 := h0
              omega
          · refine ⟨rfl, rfl, ?_, fun hh => absurd hh h4, id, fun _ => rfl, fun _ hh => ?_, fun _ hh => ?_, .inr rfl, i.symm⟩
            · show _ ≤ max _ _; omega
            · have : (3 : Int) = 1 := hh; omega
            · have : (3 : Int) = 2 := hh; omega
      · rw [if_pos h2] at hr; simp at hr
    · rw [if_pos h1] at hr; exact absurd hr h1
  · exact does_bad hn hr
theorem does_cre {now : List (Int × Int × Int × Int × Bool × Bool)} (hn : Okk now) {o m kind h : Int} : DoesP now kind h (fixV now ((creV now o m).1, (creV now o m).2.2)).1 (fixV now ((creV now o m).1, (creV now o m).2.2)).2 := by
  by_cases hr : (creV now o m).2.2 = 0
  · have hr' := hr
    unfold creV at hr
    rw [if_neg (fun hh => hh hn)] at hr
    by_cases h1 : o < 0 ∨ o ≥ 64
    · rw [if_pos h1] at hr; simp at hr
    · rw [if_neg h1] at hr
      by_cases h2 : m = 0
      · rw [if_pos h2] at hr; simp at hr
      · rw [if_neg h2] at hr
        by_cases h3 : (fndV now o).2 = true
        · rw [if_pos h3] at hr; simp at hr
        · rw [if_neg h3] at hr
          by_cases h4 : 32 ≤ now.length
          · rw [if_pos h4] at hr; simp at hr
          · have e : creV now o m = (now ++ [(o, m, 1, 0, false, false)], ((now.length : Nat) : Int), 0) := by
              unfold creV
              rw [if_neg (fun hh => hh hn), if_neg h1, if_neg h2, if_neg h3, if_neg h4]
            unfold fixV
            rw [if_neg (by simpa using hr'), e]
            obtain ⟨g1, g2⟩ := okk_iff.1 hn
            have hmem : o ∉ now.map (·.1) := by
              rw [fndV_mem] at h3
              simpa using h3
            refine ⟨okk_iff.2 ⟨by simp; omega, fun j x hx => ?_⟩, by simp, by simp, fun _ i a b ha hb => ?_⟩
            · rcases Nat.lt_or_ge j now.length with hj | hj
              · rw [List.getElem?_append_left hj] at hx
                rw [List.take_append_of_le_length (by omega)]
                exact g2 j x hx
              · have hj2 : j = now.length := by
                  have := (List.getElem?_eq_some_iff.1 hx).1
                  simp at this
                  omega
                subst hj2
                rw [List.getElem?_append_right (Nat.le_refl _), Nat.sub_self] at hx
                simp at hx
                subst hx
                rw [List.take_left' rfl]
                exact ⟨⟨by show 0 ≤ o; omega, by show o < 64; omega, h2, (by show (1 : Int) ≤ 1; decide), (by show (1 : Int) ≤ 4; decide), (by show (0 : Int) ≤ 0; decide), (by show (0 : Int) ≤ 4296015872; decide), rfl, by simp⟩, hmem⟩
            · have hi := (List.getElem?_eq_some_iff.1 ha).1
              rw [List.getElem?_append_left hi, ha] at hb
              injection hb with hb
              subst hb
              exact Steps.refl (g2 i a ha).1
  · exact does_bad hn hr
theorem choUp_get {l : List (Int × Int × Int × Int × Bool × Bool)} {act : List Bool} (hl : act.length = l.length) {i : Nat} {a b : (Int × Int × Int × Int × Bool × Bool)} (ha : l[i]? = some a) (hb : (choUp l act l.length)[i]? = some b) : ∃ q, act[i]? = some q ∧ b = choOne a q := by
  have hi := (List.getElem?_eq_some_iff.1 ha).1
  have hq := List.getElem?_eq_getElem (show i < act.length by omega)
  refine ⟨_, hq, ?_⟩
  unfold choUp at hb
  rw [List.drop_length, List.append_nil, List.getElem?_map, List.take_of_length_le (by simp [hl]), zip_at ha hq] at hb
  simpa using hb.symm
theorem does_cho {now : List (Int × Int × Int × Int × Bool × Bool)} (hn : Okk now) {act : List Bool} {kind h : Int} : DoesP now kind h (fixV now (choV now act)).1 (fixV now (choV now act)).2 := by
  by_cases hr : (choV now act).2 = 0
  · have hr' := hr
    unfold choV at hr
    rw [if_neg (fun hh => hh hn)] at hr
    by_cases h1 : act.length = now.length
    · rw [if_neg (by simpa using h1)] at hr
      by_cases h2 : (now.zip act).any (fun p => choBad p.1 p.2) = true
      · rw [if_pos h2] at hr; simp at hr
      · have e : choV now act = (choUp now act now.length, 0) := by
          unfold choV
          rw [if_neg (fun hh => hh hn), if_neg (by simpa using h1), if_neg h2]
        unfold fixV
        rw [if_neg (by simpa using hr'), e]
        show DoesP now kind h (choUp now act now.length) 0
        obtain ⟨g1, g2⟩ := okk_iff.1 hn
        have key : ∀ (i : Nat) a b, now[i]? = some a → (choUp now act now.length)[i]? = some b → b.1 = a.1 ∧ (Val1 a → Val1 b ∧ Steps a b kind h) := by
          intro i a b ha hb
          obtain ⟨q, hq, rfl⟩ := choUp_get h1 ha hb
          have hnb : choBad a q = false := by
            have hz := zip_at ha hq
            have hmem := List.mem_of_getElem? hz
            rcases hcb : choBad a q with _ | _
            · rfl
            · exact absurd (List.any_eq_true.2 ⟨_, hmem, hcb⟩) h2
          refine ⟨by unfold choOne; split <;> (try split) <;> rfl, fun hv => ?_⟩
          obtain ⟨a1, b1, c1, d1, e1, f1, g1', i1, j1⟩ := hv
          by_cases hfr : isFree a = true
          · have hst : a.2.2.1 = 1 ∨ a.2.2.1 = 2 := by unfold isFree at hfr; simpa using hfr
            have hat : a.2.2.2.2.1 = false := by rw [← i1]; exact decide_eq_false (by omega)
            have mk : ∀ s : Int, s = 1 ∨ s = 2 → Val1 (setSt a s) ∧ Steps a (setSt a s) kind h := by
              intro s hs
              refine ⟨⟨a1, b1, c1, by show 1 ≤ s; omega, by show s ≤ 4; omega, f1, g1', ?_, ?_⟩, ⟨rfl, rfl, Int.le_refl _, fun hh => by omega, id, id, fun hh => by omega, fun hh => by omega, .inl ⟨rfl, rfl⟩, i1.symm⟩⟩
              · show decide (s = 4) = a.2.2.2.2.1
                rw [hat]; exact decide_eq_false (by omega)
              · rintro ⟨h0, h3 | h3 | h3⟩
                · have h3' : s = 3 := h3; omega
                · exact j1 ⟨h0, .inr (.inl h3)⟩
                · exact j1 ⟨h0, .inr (.inr h3)⟩
            unfold choOne
            split
            · exact mk 2 (.inr rfl)
            · exact mk 1 (.inl rfl)
          · have hq0 : q = false := by
              cases q with
              | false => rfl
              | true => unfold choBad at hnb; simp at hnb; exact absurd hnb hfr
            subst hq0
            unfold choOne
            rw [if_neg (by simp), if_neg hfr]
            have hv : Val1 a := ⟨a1, b1, c1, d1, e1, f1, g1', i1, j1⟩
            exact ⟨hv, Steps.refl hv⟩
        have hlen := choUp_len h1
        refine ⟨okk_same hn ?_ (fun j x y hx hy hv => ((key j x y hx hy).2 hv).1), by omega, by omega, fun _ i a b ha hb => ((key i a b ha hb).2 (g2 i a ha).1).2⟩
        apply List.ext_getElem?
        intro i
        rw [List.getElem?_map, List.getElem?_map]
        rcases Nat.lt_or_ge i now.length with hi | hi
        · have ha := List.getElem?_eq_getElem hi
          have hb := List.getElem?_eq_getElem (show i < (choUp now act now.length).length by omega)
          rw [ha, hb]
          simp only [Option.map_some]
          rw [(key i _ _ ha hb).1]
        · rw [List.getElem?_eq_none (by omega), List.getElem?_eq_none (by omega)]
    · rw [if_pos h1] at hr; simp at hr
  · exact does_bad hn hr
end
section
open Go.RowKit Go.ChangeShapes Go.WideShapes Go.Deep Go.Joins

/-- an act's cells -/
def actC (x : Int × Int × Int × Int) : List Value := [.int .i64 x.1, .int .i64 x.2.1, .int .i64 x.2.2.1, .int .i64 x.2.2.2]
theorem actC_len (x : Int × Int × Int × Int) : (actC x).length = 4 := rfl
theorem fit_lo {x : Int} (h : Fits .i64 x) : -9223372036854775808 ≤ x := h.i64.1
theorem fit_hi {x : Int} (h : Fits .i64 x) : x ≤ 9223372036854775807 := h.i64.2
theorem pick_e (x n v : Int) (hx : Fits .i64 x) (hn : 0 < n) (hn2 : n ≤ 9223372036854775807) (hv : v = x % n) (w : World) :
    Calls Try.prog 50 #[.int .i64 x, .int .i64 n] w fun e w' => e = .returned (.int .i64 v) ∧ w = w' := by
  rw [hv]
  exact kPick_any x n hx.i64.1 hx.i64.2 hn hn2 w
set_option maxRecDepth 100000 in
set_option maxHeartbeats 8000000 in
theorem steps16_tomb (a0 a1 a3 : Int) (a5 : Bool) (xK xI xH xC kd h : Int) (hK : Fits .i64 xK) (hH : Fits .i64 xH) (hkd : kd = xK % 5) (hh : h = xH % 1000) (w : World) :
    Calls Try.prog 86 #[.agg #[.int .i64 a0, .int .u64 a1, .int .i64 4, .int .i64 a3, .bool true, .bool a5], .agg #[.int .i64 a0, .int .u64 a1, .int .i64 4, .int .i64 a3, .bool true, .bool a5], .agg #[.int .i64 xK, .int .i64 xI, .int .i64 xH, .int .i64 xC]] w fun r w' => r = .returned (.bool true) ∧ Ext w w' := by
  have q1 : (binOp .neq 96 (.agg #[.int .i64 a0, .int .u64 a1, .int .i64 4, .int .i64 a3, .bool true, .bool a5]) (.agg #[.int .i64 a0, .int .u64 a1, .int .i64 4, .int .i64 a3, .bool true, .bool a5])).run Try.prog = fun w => .ok (.bool false) w := by
    funext w
    have hS : Try.prog.underlying 96 = some (.struct (Try.prog.fieldsOf 96)) := by kernel_rfl
    have hp : Try.prog.stoodInHeld 96 = false := by kernel_rfl
    rw [run_neq_struct, show (10000 : Nat) = 9999 + 1 from rfl, run_equalIn_agg w 9999 96 _ _ hS hp]
    simp only [Program.fieldsOf, Try.underlying96]
    go_simp
  have q2 := valC_eqg
  have GK := Lib.hid hK
  have GH := Lib.hid hH
  have Gk := Lib.hid hkd
  have Gh := Lib.hid hh
  cases a5
  · go_enter Try.func86, Try.ntmps86
    go_wp2_with fail
    refine wp_region_held_drew (S := fun w' => w'.cell? ⟨w.heap.size + 1 + 1, 0, none⟩ = some (.int .i64 xK) ∧ w'.cell? ⟨w.heap.size + 1 + 1, 2, none⟩ = some (.int .i64 xH)) (by kernel_rfl) (by first | exact ⟨c2_0, c2_2⟩ | (simp [go_sem, World.cell?_alloc_past]; done)) (fun hHeld => ?_)
    (refine' take_in 0 rfl (by kernel_rfl) (by kernel_rfl) (by kernel_rfl) (fun _ _ _ h => h) (by rfl) (by assumption) ?_ ?_; rotate_left; focus (intro w hSw; (try dsimp only at hSw); go_simp; try with_reducible rfl)); try simp only [Act.put, List.setIfInBounds_toArray, List.set_cons_zero, List.set_cons_succ]
    (refine' take_in 1 rfl (by kernel_rfl) (by kernel_rfl) (by kernel_rfl) (fun _ _ _ h => h) (by rfl) (by assumption) ?_ ?_; rotate_left; focus (intro w hSw; (try dsimp only at hSw); go_simp; try with_reducible rfl)); try simp only [Act.put, List.setIfInBounds_toArray, List.set_cons_zero, List.set_cons_succ]
    (refine' take_in 3 rfl (by kernel_rfl) (by kernel_rfl) (by kernel_rfl) (fun _ _ _ h => h) (by rfl) (by assumption) ?_ ?_; rotate_left; focus (intro w hSw; (try dsimp only at hSw); go_simp; try with_reducible rfl)); try simp only [Act.put, List.setIfInBounds_toArray, List.set_cons_zero, List.set_cons_succ]
    (refine' take_in 4 rfl (by kernel_rfl) (by kernel_rfl) (by kernel_rfl) (fun _ _ _ h => h) (by rfl) (by assumption) ?_ ?_; rotate_left; focus (intro w hSw; (try dsimp only at hSw); go_simp; try with_reducible rfl)); try simp only [Act.put, List.setIfInBounds_toArray, List.set_cons_zero, List.set_cons_succ]
    refine' next_in 2 rfl (by kernel_rfl) (by rfl) (fun K hK => ?_)
    go_simp
    (with_reducible refine (pick_e xK 5 kd GK.out (by decide) (by decide) Gk.out _).mono ?_)
    rintro e w_1 ⟨rfl, rfl⟩
    refine hK.out _ _ (by (first | exact ⟨c2_0, c2_2⟩ | (simp [go_sem, World.cell?_alloc_past]; done))) (fun hHeld => ?_); clear hK K; try simp only [Act.put, List.setIfInBounds_toArray, List.set_cons_zero, List.set_cons_succ]
    refine' next_in 5 rfl (by kernel_rfl) (by rfl) (fun K hK => ?_)
    go_simp
    (with_reducible refine (pick_e xH 1000 h GH.out (by decide) (by decide) Gh.out _).mono ?_)
    rintro e w_2 ⟨rfl, rfl⟩
    refine hK.out _ _ (by (first | exact ⟨c2_0, c2_2⟩ | (simp [go_sem, World.cell?_alloc_past]; done))) (fun hHeld => ?_); clear hK K; try simp only [Act.put, List.setIfInBounds_toArray, List.set_cons_zero, List.set_cons_succ]
    (refine' take_in 6 rfl (by kernel_rfl) (by kernel_rfl) (by kernel_rfl) (fun _ _ _ h => h) (by rfl) (by assumption) ?_ ?_; rotate_left; focus (intro w hSw; (try dsimp only at hSw); go_simp; try with_reducible rfl)); try simp only [Act.put, List.setIfInBounds_toArray, List.set_cons_zero, List.set_cons_succ]
    (refine' take_in 7 rfl (by kernel_rfl) (by kernel_rfl) (by kernel_rfl) (fun _ _ _ h => h) (by rfl) (by assumption) ?_ ?_; rotate_left; focus (intro w hSw; (try dsimp only at hSw); go_simp; try with_reducible rfl)); try simp only [Act.put, List.setIfInBounds_toArray, List.set_cons_zero, List.set_cons_succ]
    refine wpAnyH_done (by kernel_rfl) ?_ _
    go_wp2_with fail
    go_ret
    exact ⟨rfl, (by repeat (first | with_reducible exact Ext.refl w | with_reducible refine Ext.drew ?_ | with_reducible refine Ext.drewN ?_ _ | with_reducible refine Ext.alloc ?_ _ | with_reducible refine Ext.setCell ?_ (by first | omega | (simp; done) | (simp; omega)) _))⟩
  · go_enter Try.func86, Try.ntmps86
    go_wp2_with fail
    refine wp_region_held_drew (S := fun w' => w'.cell? ⟨w.heap.size + 1 + 1, 0, none⟩ = some (.int .i64 xK) ∧ w'.cell? ⟨w.heap.size + 1 + 1, 2, none⟩ = some (.int .i64 xH)) (by kernel_rfl) (by first | exact ⟨c2_0, c2_2⟩ | (simp [go_sem, World.cell?_alloc_past]; done)) (fun hHeld => ?_)
    (refine' take_in 0 rfl (by kernel_rfl) (by kernel_rfl) (by kernel_rfl) (fun _ _ _ h => h) (by rfl) (by assumption) ?_ ?_; rotate_left; focus (intro w hSw; (try dsimp only at hSw); go_simp; try with_reducible rfl)); try simp only [Act.put, List.setIfInBounds_toArray, List.set_cons_zero, List.set_cons_succ]
    (refine' take_in 1 rfl (by kernel_rfl) (by kernel_rfl) (by kernel_rfl) (fun _ _ _ h => h) (by rfl) (by assumption) ?_ ?_; rotate_left; focus (intro w hSw; (try dsimp only at hSw); go_simp; try with_reducible rfl)); try simp only [Act.put, List.setIfInBounds_toArray, List.set_cons_zero, List.set_cons_succ]
    (refine' take_in 3 rfl (by kernel_rfl) (by kernel_rfl) (by kernel_rfl) (fun _ _ _ h => h) (by rfl) (by assumption) ?_ ?_; rotate_left; focus (intro w hSw; (try dsimp only at hSw); go_simp; try with_reducible rfl)); try simp only [Act.put, List.setIfInBounds_toArray, List.set_cons_zero, List.set_cons_succ]
    (refine' take_in 4 rfl (by kernel_rfl) (by kernel_rfl) (by kernel_rfl) (fun _ _ _ h => h) (by rfl) (by assumption) ?_ ?_; rotate_left; focus (intro w hSw; (try dsimp only at hSw); go_simp; try with_reducible rfl)); try simp only [Act.put, List.setIfInBounds_toArray, List.set_cons_zero, List.set_cons_succ]
    refine' next_in 2 rfl (by kernel_rfl) (by rfl) (fun K hK => ?_)
    go_simp
    (with_reducible refine (pick_e xK 5 kd GK.out (by decide) (by decide) Gk.out _).mono ?_)
    rintro e w_1 ⟨rfl, rfl⟩
    refine hK.out _ _ (by (first | exact ⟨c2_0, c2_2⟩ | (simp [go_sem, World.cell?_alloc_past]; done))) (fun hHeld => ?_); clear hK K; try simp only [Act.put, List.setIfInBounds_toArray, List.set_cons_zero, List.set_cons_succ]
    refine' next_in 5 rfl (by kernel_rfl) (by rfl) (fun K hK => ?_)
    go_simp
    (with_reducible refine (pick_e xH 1000 h GH.out (by decide) (by decide) Gh.out _).mono ?_)
    rintro e w_2 ⟨rfl, rfl⟩
    refine hK.out _ _ (by (first | exact ⟨c2_0, c2_2⟩ | (simp [go_sem, World.cell?_alloc_past]; done))) (fun hHeld => ?_); clear hK K; try simp only [Act.put, List.setIfInBounds_toArray, List.set_cons_zero, List.set_cons_succ]
    (refine' take_in 6 rfl (by kernel_rfl) (by kernel_rfl) (by kernel_rfl) (fun _ _ _ h => h) (by rfl) (by assumption) ?_ ?_; rotate_left; focus (intro w hSw; (try dsimp only at hSw); go_simp; try with_reducible rfl)); try simp only [Act.put, List.setIfInBounds_toArray, List.set_cons_zero, List.set_cons_succ]
    (refine' take_in 7 rfl (by kernel_rfl) (by kernel_rfl) (by kernel_rfl) (fun _ _ _ h => h) (by rfl) (by assumption) ?_ ?_; rotate_left; focus (intro w hSw; (try dsimp only at hSw); go_simp; try with_reducible rfl)); try simp only [Act.put, List.setIfInBounds_toArray, List.set_cons_zero, List.set_cons_succ]
    refine wpAnyH_done (by kernel_rfl) ?_ _
    go_wp2_with fail
    go_ret
    exact ⟨rfl, (by repeat (first | with_reducible exact Ext.refl w | with_reducible refine Ext.drew ?_ | with_reducible refine Ext.drewN ?_ _ | with_reducible refine Ext.alloc ?_ _ | with_reducible refine Ext.setCell ?_ (by first | omega | (simp; done) | (simp; omega)) _))⟩
set_option maxRecDepth 100000 in
set_option maxHeartbeats 8000000 in
theorem steps16_live (a0 a1 a2 a3 b2 b3 : Int) (a5 b4 b5 : Bool) (xK xI xH xC kd h : Int) (hK : Fits .i64 xK) (hH : Fits .i64 xH) (hkd : kd = xK % 5) (hh : h = xH % 1000) (w : World)
    (h2 : ¬ a2 = 4) (h3 : a3 ≤ b3) (h5 : a5 = true → b5 = true) (h6 : a2 = 3 → b2 = 1 → kd = 3 ∧ a3 ≤ h) (h7 : a2 = 3 → b2 ≠ 2) (h8 : b4 = false ∧ b5 = a5 ∨ kd = 4) :
    Calls Try.prog 86 #[.agg #[.int .i64 a0, .int .u64 a1, .int .i64 a2, .int .i64 a3, .bool false, .bool a5], .agg #[.int .i64 a0, .int .u64 a1, .int .i64 b2, .int .i64 b3, .bool b4, .bool b5], .agg #[.int .i64 xK, .int .i64 xI, .int .i64 xH, .int .i64 xC]] w fun r w' => r = .returned (.bool true) ∧ Ext w w' := by
  have e2 : (a2 == 4) = false := by simpa using h2
  have e3 : ¬ b3 < a3 := by omega
  have GK := Lib.hid hK
  have GH := Lib.hid hH
  have Gk := Lib.hid hkd
  have Gh := Lib.hid hh
  have G6 := Lib.hid h6
  have G7 := Lib.hid h7
  clear hK hH hkd hh h6 h7 h3
  cases a5 <;> cases b4 <;> cases b5
  · skip
    clear h5 h8
    go_enter Try.func86, Try.ntmps86
    go_wp2_with fail
    refine wp_region_held_drew (S := fun w' => w'.cell? ⟨w.heap.size + 1 + 1, 0, none⟩ = some (.int .i64 xK) ∧ w'.cell? ⟨w.heap.size + 1 + 1, 2, none⟩ = some (.int .i64 xH)) (by kernel_rfl) (by first | exact ⟨c2_0, c2_2⟩ | (simp [go_sem, World.cell?_alloc_past]; done)) (fun hHeld => ?_)
    (refine' take_in 0 rfl (by kernel_rfl) (by kernel_rfl) (by kernel_rfl) (fun _ _ _ h => h) (by rfl) (by assumption) ?_ ?_; rotate_left; focus (intro w hSw; (try dsimp only at hSw); go_simp; try with_reducible rfl)); try simp only [Act.put, List.setIfInBounds_toArray, List.set_cons_zero, List.set_cons_succ]
    (refine' take_in 1 rfl (by kernel_rfl) (by kernel_rfl) (by kernel_rfl) (fun _ _ _ h => h) (by rfl) (by assumption) ?_ ?_; rotate_left; focus (intro w hSw; (try dsimp only at hSw); go_simp; try with_reducible rfl)); try simp only [Act.put, List.setIfInBounds_toArray, List.set_cons_zero, List.set_cons_succ]
    (refine' take_in 3 rfl (by kernel_rfl) (by kernel_rfl) (by kernel_rfl) (fun _ _ _ h => h) (by rfl) (by assumption) ?_ ?_; rotate_left; focus (intro w hSw; (try dsimp only at hSw); go_simp; try with_reducible rfl)); try simp only [Act.put, List.setIfInBounds_toArray, List.set_cons_zero, List.set_cons_succ]
    (refine' take_in 4 rfl (by kernel_rfl) (by kernel_rfl) (by kernel_rfl) (fun _ _ _ h => h) (by rfl) (by assumption) ?_ ?_; rotate_left; focus (intro w hSw; (try dsimp only at hSw); go_simp; try with_reducible rfl)); try simp only [Act.put, List.setIfInBounds_toArray, List.set_cons_zero, List.set_cons_succ]
    refine' next_in 2 rfl (by kernel_rfl) (by rfl) (fun K hK => ?_)
    go_simp
    (with_reducible refine (pick_e xK 5 kd GK.out (by decide) (by decide) Gk.out _).mono ?_)
    rintro e w_1 ⟨rfl, rfl⟩
    refine hK.out _ _ (by (first | exact ⟨c2_0, c2_2⟩ | (simp [go_sem, World.cell?_alloc_past]; done))) (fun hHeld => ?_); clear hK K; try simp only [Act.put, List.setIfInBounds_toArray, List.set_cons_zero, List.set_cons_succ]
    refine' next_in 5 rfl (by kernel_rfl) (by rfl) (fun K hK => ?_)
    go_simp
    (with_reducible refine (pick_e xH 1000 h GH.out (by decide) (by decide) Gh.out _).mono ?_)
    rintro e w_2 ⟨rfl, rfl⟩
    refine hK.out _ _ (by (first | exact ⟨c2_0, c2_2⟩ | (simp [go_sem, World.cell?_alloc_past]; done))) (fun hHeld => ?_); clear hK K; try simp only [Act.put, List.setIfInBounds_toArray, List.set_cons_zero, List.set_cons_succ]
    (refine' take_in 6 rfl (by kernel_rfl) (by kernel_rfl) (by kernel_rfl) (fun _ _ _ h => h) (by rfl) (by assumption) ?_ ?_; rotate_left; focus (intro w hSw; (try dsimp only at hSw); go_simp; try with_reducible rfl)); try simp only [Act.put, List.setIfInBounds_toArray, List.set_cons_zero, List.set_cons_succ]
    (refine' take_in 7 rfl (by kernel_rfl) (by kernel_rfl) (by kernel_rfl) (fun _ _ _ h => h) (by rfl) (by assumption) ?_ ?_; rotate_left; focus (intro w hSw; (try dsimp only at hSw); go_simp; try with_reducible rfl)); try simp only [Act.put, List.setIfInBounds_toArray, List.set_cons_zero, List.set_cons_succ]
    refine wpAnyH_done (by kernel_rfl) ?_ _
    by_cases j3 : a2 = 3
    · have e65 : (a2 == 3) = true := by simpa using j3
      have j7 := G7.out j3
      have e72 : (b2 == 2) = false := by simpa using j7
      by_cases j1 : b2 = 1
      · have e69 : (b2 == 1) = true := by simpa using j1
        obtain ⟨j8, j9⟩ := G6.out j3 j1
        have e81 : (kd != 3) = false := by simpa using j8
        have e87 : ¬ h < a3 := by omega
        go_wp2_with fail
        go_ret
        exact ⟨rfl, (by repeat (first | with_reducible exact Ext.refl w | with_reducible refine Ext.drew ?_ | with_reducible refine Ext.drewN ?_ _ | with_reducible refine Ext.alloc ?_ _ | with_reducible refine Ext.setCell ?_ (by first | omega | (simp; done) | (simp; omega)) _))⟩
      · have e69 : (b2 == 1) = false := by simpa using j1
        go_wp2_with fail
        go_ret
        exact ⟨rfl, (by repeat (first | with_reducible exact Ext.refl w | with_reducible refine Ext.drew ?_ | with_reducible refine Ext.drewN ?_ _ | with_reducible refine Ext.alloc ?_ _ | with_reducible refine Ext.setCell ?_ (by first | omega | (simp; done) | (simp; omega)) _))⟩
    · have e65 : (a2 == 3) = false := by simpa using j3
      go_wp2_with fail
      go_ret
      exact ⟨rfl, (by repeat (first | with_reducible exact Ext.refl w | with_reducible refine Ext.drew ?_ | with_reducible refine Ext.drewN ?_ _ | with_reducible refine Ext.alloc ?_ _ | with_reducible refine Ext.setCell ?_ (by first | omega | (simp; done) | (simp; omega)) _))⟩
  · skip
    have hk4 : kd = 4 := by rcases h8 with ⟨h, h'⟩ | h <;> first | (exact h) | (exact absurd h (by decide)) | (exact absurd h' (by decide))
    have e104 : (kd == 4) = true := by simpa using hk4
    clear h5 h8
    go_enter Try.func86, Try.ntmps86
    go_wp2_with fail
    refine wp_region_held_drew (S := fun w' => w'.cell? ⟨w.heap.size + 1 + 1, 0, none⟩ = some (.int .i64 xK) ∧ w'.cell? ⟨w.heap.size + 1 + 1, 2, none⟩ = some (.int .i64 xH)) (by kernel_rfl) (by first | exact ⟨c2_0, c2_2⟩ | (simp [go_sem, World.cell?_alloc_past]; done)) (fun hHeld => ?_)
    (refine' take_in 0 rfl (by kernel_rfl) (by kernel_rfl) (by kernel_rfl) (fun _ _ _ h => h) (by rfl) (by assumption) ?_ ?_; rotate_left; focus (intro w hSw; (try dsimp only at hSw); go_simp; try with_reducible rfl)); try simp only [Act.put, List.setIfInBounds_toArray, List.set_cons_zero, List.set_cons_succ]
    (refine' take_in 1 rfl (by kernel_rfl) (by kernel_rfl) (by kernel_rfl) (fun _ _ _ h => h) (by rfl) (by assumption) ?_ ?_; rotate_left; focus (intro w hSw; (try dsimp only at hSw); go_simp; try with_reducible rfl)); try simp only [Act.put, List.setIfInBounds_toArray, List.set_cons_zero, List.set_cons_succ]
    (refine' take_in 3 rfl (by kernel_rfl) (by kernel_rfl) (by kernel_rfl) (fun _ _ _ h => h) (by rfl) (by assumption) ?_ ?_; rotate_left; focus (intro w hSw; (try dsimp only at hSw); go_simp; try with_reducible rfl)); try simp only [Act.put, List.setIfInBounds_toArray, List.set_cons_zero, List.set_cons_succ]
    (refine' take_in 4 rfl (by kernel_rfl) (by kernel_rfl) (by kernel_rfl) (fun _ _ _ h => h) (by rfl) (by assumption) ?_ ?_; rotate_left; focus (intro w hSw; (try dsimp only at hSw); go_simp; try with_reducible rfl)); try simp only [Act.put, List.setIfInBounds_toArray, List.set_cons_zero, List.set_cons_succ]
    refine' next_in 2 rfl (by kernel_rfl) (by rfl) (fun K hK => ?_)
    go_simp
    (with_reducible refine (pick_e xK 5 kd GK.out (by decide) (by decide) Gk.out _).mono ?_)
    rintro e w_1 ⟨rfl, rfl⟩
    refine hK.out _ _ (by (first | exact ⟨c2_0, c2_2⟩ | (simp [go_sem, World.cell?_alloc_past]; done))) (fun hHeld => ?_); clear hK K; try simp only [Act.put, List.setIfInBounds_toArray, List.set_cons_zero, List.set_cons_succ]
    refine' next_in 5 rfl (by kernel_rfl) (by rfl) (fun K hK => ?_)
    go_simp
    (with_reducible refine (pick_e xH 1000 h GH.out (by decide) (by decide) Gh.out _).mono ?_)
    rintro e w_2 ⟨rfl, rfl⟩
    refine hK.out _ _ (by (first | exact ⟨c2_0, c2_2⟩ | (simp [go_sem, World.cell?_alloc_past]; done))) (fun hHeld => ?_); clear hK K; try simp only [Act.put, List.setIfInBounds_toArray, List.set_cons_zero, List.set_cons_succ]
    (refine' take_in 6 rfl (by kernel_rfl) (by kernel_rfl) (by kernel_rfl) (fun _ _ _ h => h) (by rfl) (by assumption) ?_ ?_; rotate_left; focus (intro w hSw; (try dsimp only at hSw); go_simp; try with_reducible rfl)); try simp only [Act.put, List.setIfInBounds_toArray, List.set_cons_zero, List.set_cons_succ]
    (refine' take_in 7 rfl (by kernel_rfl) (by kernel_rfl) (by kernel_rfl) (fun _ _ _ h => h) (by rfl) (by assumption) ?_ ?_; rotate_left; focus (intro w hSw; (try dsimp only at hSw); go_simp; try with_reducible rfl)); try simp only [Act.put, List.setIfInBounds_toArray, List.set_cons_zero, List.set_cons_succ]
    refine wpAnyH_done (by kernel_rfl) ?_ _
    by_cases j3 : a2 = 3
    · have e65 : (a2 == 3) = true := by simpa using j3
      have j7 := G7.out j3
      have e72 : (b2 == 2) = false := by simpa using j7
      have e69 : (b2 == 1) = false := by have j1 : ¬ b2 = 1 := (fun j1 => by have := (G6.out j3 j1).1; omega); simpa using j1
      go_wp2_with fail
      go_ret
      exact ⟨rfl, (by repeat (first | with_reducible exact Ext.refl w | with_reducible refine Ext.drew ?_ | with_reducible refine Ext.drewN ?_ _ | with_reducible refine Ext.alloc ?_ _ | with_reducible refine Ext.setCell ?_ (by first | omega | (simp; done) | (simp; omega)) _))⟩
    · have e65 : (a2 == 3) = false := by simpa using j3
      go_wp2_with fail
      go_ret
      exact ⟨rfl, (by repeat (first | with_reducible exact Ext.refl w | with_reducible refine Ext.drew ?_ | with_reducible refine Ext.drewN ?_ _ | with_reducible refine Ext.alloc ?_ _ | with_reducible refine Ext.setCell ?_ (by first | omega | (simp; done) | (simp; omega)) _))⟩
  · skip
    have hk4 : kd = 4 := by rcases h8 with ⟨h, h'⟩ | h <;> first | (exact h) | (exact absurd h (by decide)) | (exact absurd h' (by decide))
    have e104 : (kd == 4) = true := by simpa using hk4
    clear h5 h8
    go_enter Try.func86, Try.ntmps86
    go_wp2_with fail
    refine wp_region_held_drew (S := fun w' => w'.cell? ⟨w.heap.size + 1 + 1, 0, none⟩ = some (.int .i64 xK) ∧ w'.cell? ⟨w.heap.size + 1 + 1, 2, none⟩ = some (.int .i64 xH)) (by kernel_rfl) (by first | exact ⟨c2_0, c2_2⟩ | (simp [go_sem, World.cell?_alloc_past]; done)) (fun hHeld => ?_)
    (refine' take_in 0 rfl (by kernel_rfl) (by kernel_rfl) (by kernel_rfl) (fun _ _ _ h => h) (by rfl) (by assumption) ?_ ?_; rotate_left; focus (intro w hSw; (try dsimp only at hSw); go_simp; try with_reducible rfl)); try simp only [Act.put, List.setIfInBounds_toArray, List.set_cons_zero, List.set_cons_succ]
    (refine' take_in 1 rfl (by kernel_rfl) (by kernel_rfl) (by kernel_rfl) (fun _ _ _ h => h) (by rfl) (by assumption) ?_ ?_; rotate_left; focus (intro w hSw; (try dsimp only at hSw); go_simp; try with_reducible rfl)); try simp only [Act.put, List.setIfInBounds_toArray, List.set_cons_zero, List.set_cons_succ]
    (refine' take_in 3 rfl (by kernel_rfl) (by kernel_rfl) (by kernel_rfl) (fun _ _ _ h => h) (by rfl) (by assumption) ?_ ?_; rotate_left; focus (intro w hSw; (try dsimp only at hSw); go_simp; try with_reducible rfl)); try simp only [Act.put, List.setIfInBounds_toArray, List.set_cons_zero, List.set_cons_succ]
    (refine' take_in 4 rfl (by kernel_rfl) (by kernel_rfl) (by kernel_rfl) (fun _ _ _ h => h) (by rfl) (by assumption) ?_ ?_; rotate_left; focus (intro w hSw; (try dsimp only at hSw); go_simp; try with_reducible rfl)); try simp only [Act.put, List.setIfInBounds_toArray, List.set_cons_zero, List.set_cons_succ]
    refine' next_in 2 rfl (by kernel_rfl) (by rfl) (fun K hK => ?_)
    go_simp
    (with_reducible refine (pick_e xK 5 kd GK.out (by decide) (by decide) Gk.out _).mono ?_)
    rintro e w_1 ⟨rfl, rfl⟩
    refine hK.out _ _ (by (first | exact ⟨c2_0, c2_2⟩ | (simp [go_sem, World.cell?_alloc_past]; done))) (fun hHeld => ?_); clear hK K; try simp only [Act.put, List.setIfInBounds_toArray, List.set_cons_zero, List.set_cons_succ]
    refine' next_in 5 rfl (by kernel_rfl) (by rfl) (fun K hK => ?_)
    go_simp
    (with_reducible refine (pick_e xH 1000 h GH.out (by decide) (by decide) Gh.out _).mono ?_)
    rintro e w_2 ⟨rfl, rfl⟩
    refine hK.out _ _ (by (first | exact ⟨c2_0, c2_2⟩ | (simp [go_sem, World.cell?_alloc_past]; done))) (fun hHeld => ?_); clear hK K; try simp only [Act.put, List.setIfInBounds_toArray, List.set_cons_zero, List.set_cons_succ]
    (refine' take_in 6 rfl (by kernel_rfl) (by kernel_rfl) (by kernel_rfl) (fun _ _ _ h => h) (by rfl) (by assumption) ?_ ?_; rotate_left; focus (intro w hSw; (try dsimp only at hSw); go_simp; try with_reducible rfl)); try simp only [Act.put, List.setIfInBounds_toArray, List.set_cons_zero, List.set_cons_succ]
    (refine' take_in 7 rfl (by kernel_rfl) (by kernel_rfl) (by kernel_rfl) (fun _ _ _ h => h) (by rfl) (by assumption) ?_ ?_; rotate_left; focus (intro w hSw; (try dsimp only at hSw); go_simp; try with_reducible rfl)); try simp only [Act.put, List.setIfInBounds_toArray, List.set_cons_zero, List.set_cons_succ]
    refine wpAnyH_done (by kernel_rfl) ?_ _
    by_cases j3 : a2 = 3
    · have e65 : (a2 == 3) = true := by simpa using j3
      have j7 := G7.out j3
      have e72 : (b2 == 2) = false := by simpa using j7
      have e69 : (b2 == 1) = false := by have j1 : ¬ b2 = 1 := (fun j1 => by have := (G6.out j3 j1).1; omega); simpa using j1
      go_wp2_with fail
      go_ret
      exact ⟨rfl, (by repeat (first | with_reducible exact Ext.refl w | with_reducible refine Ext.drew ?_ | with_reducible refine Ext.drewN ?_ _ | with_reducible refine Ext.alloc ?_ _ | with_reducible refine Ext.setCell ?_ (by first | omega | (simp; done) | (simp; omega)) _))⟩
    · have e65 : (a2 == 3) = false := by simpa using j3
      go_wp2_with fail
      go_ret
      exact ⟨rfl, (by repeat (first | with_reducible exact Ext.refl w | with_reducible refine Ext.drew ?_ | with_reducible refine Ext.drewN ?_ _ | with_reducible refine Ext.alloc ?_ _ | with_reducible refine Ext.setCell ?_ (by first | omega | (simp; done) | (simp; omega)) _))⟩
  · skip
    have hk4 : kd = 4 := by rcases h8 with ⟨h, h'⟩ | h <;> first | (exact h) | (exact absurd h (by decide)) | (exact absurd h' (by decide))
    have e104 : (kd == 4) = true := by simpa using hk4
    clear h5 h8
    go_enter Try.func86, Try.ntmps86
    go_wp2_with fail
    refine wp_region_held_drew (S := fun w' => w'.cell? ⟨w.heap.size + 1 + 1, 0, none⟩ = some (.int .i64 xK) ∧ w'.cell? ⟨w.heap.size + 1 + 1, 2, none⟩ = some (.int .i64 xH)) (by kernel_rfl) (by first | exact ⟨c2_0, c2_2⟩ | (simp [go_sem, World.cell?_alloc_past]; done)) (fun hHeld => ?_)
    (refine' take_in 0 rfl (by kernel_rfl) (by kernel_rfl) (by kernel_rfl) (fun _ _ _ h => h) (by rfl) (by assumption) ?_ ?_; rotate_left; focus (intro w hSw; (try dsimp only at hSw); go_simp; try with_reducible rfl)); try simp only [Act.put, List.setIfInBounds_toArray, List.set_cons_zero, List.set_cons_succ]
    (refine' take_in 1 rfl (by kernel_rfl) (by kernel_rfl) (by kernel_rfl) (fun _ _ _ h => h) (by rfl) (by assumption) ?_ ?_; rotate_left; focus (intro w hSw; (try dsimp only at hSw); go_simp; try with_reducible rfl)); try simp only [Act.put, List.setIfInBounds_toArray, List.set_cons_zero, List.set_cons_succ]
    (refine' take_in 3 rfl (by kernel_rfl) (by kernel_rfl) (by kernel_rfl) (fun _ _ _ h => h) (by rfl) (by assumption) ?_ ?_; rotate_left; focus (intro w hSw; (try dsimp only at hSw); go_simp; try with_reducible rfl)); try simp only [Act.put, List.setIfInBounds_toArray, List.set_cons_zero, List.set_cons_succ]
    (refine' take_in 4 rfl (by kernel_rfl) (by kernel_rfl) (by kernel_rfl) (fun _ _ _ h => h) (by rfl) (by assumption) ?_ ?_; rotate_left; focus (intro w hSw; (try dsimp only at hSw); go_simp; try with_reducible rfl)); try simp only [Act.put, List.setIfInBounds_toArray, List.set_cons_zero, List.set_cons_succ]
    refine' next_in 2 rfl (by kernel_rfl) (by rfl) (fun K hK => ?_)
    go_simp
    (with_reducible refine (pick_e xK 5 kd GK.out (by decide) (by decide) Gk.out _).mono ?_)
    rintro e w_1 ⟨rfl, rfl⟩
    refine hK.out _ _ (by (first | exact ⟨c2_0, c2_2⟩ | (simp [go_sem, World.cell?_alloc_past]; done))) (fun hHeld => ?_); clear hK K; try simp only [Act.put, List.setIfInBounds_toArray, List.set_cons_zero, List.set_cons_succ]
    refine' next_in 5 rfl (by kernel_rfl) (by rfl) (fun K hK => ?_)
    go_simp
    (with_reducible refine (pick_e xH 1000 h GH.out (by decide) (by decide) Gh.out _).mono ?_)
    rintro e w_2 ⟨rfl, rfl⟩
    refine hK.out _ _ (by (first | exact ⟨c2_0, c2_2⟩ | (simp [go_sem, World.cell?_alloc_past]; done))) (fun hHeld => ?_); clear hK K; try simp only [Act.put, List.setIfInBounds_toArray, List.set_cons_zero, List.set_cons_succ]
    (refine' take_in 6 rfl (by kernel_rfl) (by kernel_rfl) (by kernel_rfl) (fun _ _ _ h => h) (by rfl) (by assumption) ?_ ?_; rotate_left; focus (intro w hSw; (try dsimp only at hSw); go_simp; try with_reducible rfl)); try simp only [Act.put, List.setIfInBounds_toArray, List.set_cons_zero, List.set_cons_succ]
    (refine' take_in 7 rfl (by kernel_rfl) (by kernel_rfl) (by kernel_rfl) (fun _ _ _ h => h) (by rfl) (by assumption) ?_ ?_; rotate_left; focus (intro w hSw; (try dsimp only at hSw); go_simp; try with_reducible rfl)); try simp only [Act.put, List.setIfInBounds_toArray, List.set_cons_zero, List.set_cons_succ]
    refine wpAnyH_done (by kernel_rfl) ?_ _
    by_cases j3 : a2 = 3
    · have e65 : (a2 == 3) = true := by simpa using j3
      have j7 := G7.out j3
      have e72 : (b2 == 2) = false := by simpa using j7
      have e69 : (b2 == 1) = false := by have j1 : ¬ b2 = 1 := (fun j1 => by have := (G6.out j3 j1).1; omega); simpa using j1
      go_wp2_with fail
      go_ret
      exact ⟨rfl, (by repeat (first | with_reducible exact Ext.refl w | with_reducible refine Ext.drew ?_ | with_reducible refine Ext.drewN ?_ _ | with_reducible refine Ext.alloc ?_ _ | with_reducible refine Ext.setCell ?_ (by first | omega | (simp; done) | (simp; omega)) _))⟩
    · have e65 : (a2 == 3) = false := by simpa using j3
      go_wp2_with fail
      go_ret
      exact ⟨rfl, (by repeat (first | with_reducible exact Ext.refl w | with_reducible refine Ext.drew ?_ | with_reducible refine Ext.drewN ?_ _ | with_reducible refine Ext.alloc ?_ _ | with_reducible refine Ext.setCell ?_ (by first | omega | (simp; done) | (simp; omega)) _))⟩
  · exact absurd (h5 rfl) (by decide)
  · skip
    clear h5 h8
    go_enter Try.func86, Try.ntmps86
    go_wp2_with fail
    refine wp_region_held_drew (S := fun w' => w'.cell? ⟨w.heap.size + 1 + 1, 0, none⟩ = some (.int .i64 xK) ∧ w'.cell? ⟨w.heap.size + 1 + 1, 2, none⟩ = some (.int .i64 xH)) (by kernel_rfl) (by first | exact ⟨c2_0, c2_2⟩ | (simp [go_sem, World.cell?_alloc_past]; done)) (fun hHeld => ?_)
    (refine' take_in 0 rfl (by kernel_rfl) (by kernel_rfl) (by kernel_rfl) (fun _ _ _ h => h) (by rfl) (by assumption) ?_ ?_; rotate_left; focus (intro w hSw; (try dsimp only at hSw); go_simp; try with_reducible rfl)); try simp only [Act.put, List.setIfInBounds_toArray, List.set_cons_zero, List.set_cons_succ]
    (refine' take_in 1 rfl (by kernel_rfl) (by kernel_rfl) (by kernel_rfl) (fun _ _ _ h => h) (by rfl) (by assumption) ?_ ?_; rotate_left; focus (intro w hSw; (try dsimp only at hSw); go_simp; try with_reducible rfl)); try simp only [Act.put, List.setIfInBounds_toArray, List.set_cons_zero, List.set_cons_succ]
    (refine' take_in 3 rfl (by kernel_rfl) (by kernel_rfl) (by kernel_rfl) (fun _ _ _ h => h) (by rfl) (by assumption) ?_ ?_; rotate_left; focus (intro w hSw; (try dsimp only at hSw); go_simp; try with_reducible rfl)); try simp only [Act.put, List.setIfInBounds_toArray, List.set_cons_zero, List.set_cons_succ]
    (refine' take_in 4 rfl (by kernel_rfl) (by kernel_rfl) (by kernel_rfl) (fun _ _ _ h => h) (by rfl) (by assumption) ?_ ?_; rotate_left; focus (intro w hSw; (try dsimp only at hSw); go_simp; try with_reducible rfl)); try simp only [Act.put, List.setIfInBounds_toArray, List.set_cons_zero, List.set_cons_succ]
    refine' next_in 2 rfl (by kernel_rfl) (by rfl) (fun K hK => ?_)
    go_simp
    (with_reducible refine (pick_e xK 5 kd GK.out (by decide) (by decide) Gk.out _).mono ?_)
    rintro e w_1 ⟨rfl, rfl⟩
    refine hK.out _ _ (by (first | exact ⟨c2_0, c2_2⟩ | (simp [go_sem, World.cell?_alloc_past]; done))) (fun hHeld => ?_); clear hK K; try simp only [Act.put, List.setIfInBounds_toArray, List.set_cons_zero, List.set_cons_succ]
    refine' next_in 5 rfl (by kernel_rfl) (by rfl) (fun K hK => ?_)
    go_simp
    (with_reducible refine (pick_e xH 1000 h GH.out (by decide) (by decide) Gh.out _).mono ?_)
    rintro e w_2 ⟨rfl, rfl⟩
    refine hK.out _ _ (by (first | exact ⟨c2_0, c2_2⟩ | (simp [go_sem, World.cell?_alloc_past]; done))) (fun hHeld => ?_); clear hK K; try simp only [Act.put, List.setIfInBounds_toArray, List.set_cons_zero, List.set_cons_succ]
    (refine' take_in 6 rfl (by kernel_rfl) (by kernel_rfl) (by kernel_rfl) (fun _ _ _ h => h) (by rfl) (by assumption) ?_ ?_; rotate_left; focus (intro w hSw; (try dsimp only at hSw); go_simp; try with_reducible rfl)); try simp only [Act.put, List.setIfInBounds_toArray, List.set_cons_zero, List.set_cons_succ]
    (refine' take_in 7 rfl (by kernel_rfl) (by kernel_rfl) (by kernel_rfl) (fun _ _ _ h => h) (by rfl) (by assumption) ?_ ?_; rotate_left; focus (intro w hSw; (try dsimp only at hSw); go_simp; try with_reducible rfl)); try simp only [Act.put, List.setIfInBounds_toArray, List.set_cons_zero, List.set_cons_succ]
    refine wpAnyH_done (by kernel_rfl) ?_ _
    by_cases j3 : a2 = 3
    · have e65 : (a2 == 3) = true := by simpa using j3
      have j7 := G7.out j3
      have e72 : (b2 == 2) = false := by simpa using j7
      by_cases j1 : b2 = 1
      · have e69 : (b2 == 1) = true := by simpa using j1
        obtain ⟨j8, j9⟩ := G6.out j3 j1
        have e81 : (kd != 3) = false := by simpa using j8
        have e87 : ¬ h < a3 := by omega
        go_wp2_with fail
        go_ret
        exact ⟨rfl, (by repeat (first | with_reducible exact Ext.refl w | with_reducible refine Ext.drew ?_ | with_reducible refine Ext.drewN ?_ _ | with_reducible refine Ext.alloc ?_ _ | with_reducible refine Ext.setCell ?_ (by first | omega | (simp; done) | (simp; omega)) _))⟩
      · have e69 : (b2 == 1) = false := by simpa using j1
        go_wp2_with fail
        go_ret
        exact ⟨rfl, (by repeat (first | with_reducible exact Ext.refl w | with_reducible refine Ext.drew ?_ | with_reducible refine Ext.drewN ?_ _ | with_reducible refine Ext.alloc ?_ _ | with_reducible refine Ext.setCell ?_ (by first | omega | (simp; done) | (simp; omega)) _))⟩
    · have e65 : (a2 == 3) = false := by simpa using j3
      go_wp2_with fail
      go_ret
      exact ⟨rfl, (by repeat (first | with_reducible exact Ext.refl w | with_reducible refine Ext.drew ?_ | with_reducible refine Ext.drewN ?_ _ | with_reducible refine Ext.alloc ?_ _ | with_reducible refine Ext.setCell ?_ (by first | omega | (simp; done) | (simp; omega)) _))⟩
  · exact absurd (h5 rfl) (by decide)
  · skip
    have hk4 : kd = 4 := by rcases h8 with ⟨h, h'⟩ | h <;> first | (exact h) | (exact absurd h (by decide)) | (exact absurd h' (by decide))
    have e104 : (kd == 4) = true := by simpa using hk4
    clear h5 h8
    go_enter Try.func86, Try.ntmps86
    go_wp2_with fail
    refine wp_region_held_drew (S := fun w' => w'.cell? ⟨w.heap.size + 1 + 1, 0, none⟩ = some (.int .i64 xK) ∧ w'.cell? ⟨w.heap.size + 1 + 1, 2, none⟩ = some (.int .i64 xH)) (by kernel_rfl) (by first | exact ⟨c2_0, c2_2⟩ | (simp [go_sem, World.cell?_alloc_past]; done)) (fun hHeld => ?_)
    (refine' take_in 0 rfl (by kernel_rfl) (by kernel_rfl) (by kernel_rfl) (fun _ _ _ h => h) (by rfl) (by assumption) ?_ ?_; rotate_left; focus (intro w hSw; (try dsimp only at hSw); go_simp; try with_reducible rfl)); try simp only [Act.put, List.setIfInBounds_toArray, List.set_cons_zero, List.set_cons_succ]
    (refine' take_in 1 rfl (by kernel_rfl) (by kernel_rfl) (by kernel_rfl) (fun _ _ _ h => h) (by rfl) (by assumption) ?_ ?_; rotate_left; focus (intro w hSw; (try dsimp only at hSw); go_simp; try with_reducible rfl)); try simp only [Act.put, List.setIfInBounds_toArray, List.set_cons_zero, List.set_cons_succ]
    (refine' take_in 3 rfl (by kernel_rfl) (by kernel_rfl) (by kernel_rfl) (fun _ _ _ h => h) (by rfl) (by assumption) ?_ ?_; rotate_left; focus (intro w hSw; (try dsimp only at hSw); go_simp; try with_reducible rfl)); try simp only [Act.put, List.setIfInBounds_toArray, List.set_cons_zero, List.set_cons_succ]
    (refine' take_in 4 rfl (by kernel_rfl) (by kernel_rfl) (by kernel_rfl) (fun _ _ _ h => h) (by rfl) (by assumption) ?_ ?_; rotate_left; focus (intro w hSw; (try dsimp only at hSw); go_simp; try with_reducible rfl)); try simp only [Act.put, List.setIfInBounds_toArray, List.set_cons_zero, List.set_cons_succ]
    refine' next_in 2 rfl (by kernel_rfl) (by rfl) (fun K hK => ?_)
    go_simp
    (with_reducible refine (pick_e xK 5 kd GK.out (by decide) (by decide) Gk.out _).mono ?_)
    rintro e w_1 ⟨rfl, rfl⟩
    refine hK.out _ _ (by (first | exact ⟨c2_0, c2_2⟩ | (simp [go_sem, World.cell?_alloc_past]; done))) (fun hHeld => ?_); clear hK K; try simp only [Act.put, List.setIfInBounds_toArray, List.set_cons_zero, List.set_cons_succ]
    refine' next_in 5 rfl (by kernel_rfl) (by rfl) (fun K hK => ?_)
    go_simp
    (with_reducible refine (pick_e xH 1000 h GH.out (by decide) (by decide) Gh.out _).mono ?_)
    rintro e w_2 ⟨rfl, rfl⟩
    refine hK.out _ _ (by (first | exact ⟨c2_0, c2_2⟩ | (simp [go_sem, World.cell?_alloc_past]; done))) (fun hHeld => ?_); clear hK K; try simp only [Act.put, List.setIfInBounds_toArray, List.set_cons_zero, List.set_cons_succ]
    (refine' take_in 6 rfl (by kernel_rfl) (by kernel_rfl) (by kernel_rfl) (fun _ _ _ h => h) (by rfl) (by assumption) ?_ ?_; rotate_left; focus (intro w hSw; (try dsimp only at hSw); go_simp; try with_reducible rfl)); try simp only [Act.put, List.setIfInBounds_toArray, List.set_cons_zero, List.set_cons_succ]
    (refine' take_in 7 rfl (by kernel_rfl) (by kernel_rfl) (by kernel_rfl) (fun _ _ _ h => h) (by rfl) (by assumption) ?_ ?_; rotate_left; focus (intro w hSw; (try dsimp only at hSw); go_simp; try with_reducible rfl)); try simp only [Act.put, List.setIfInBounds_toArray, List.set_cons_zero, List.set_cons_succ]
    refine wpAnyH_done (by kernel_rfl) ?_ _
    by_cases j3 : a2 = 3
    · have e65 : (a2 == 3) = true := by simpa using j3
      have j7 := G7.out j3
      have e72 : (b2 == 2) = false := by simpa using j7
      have e69 : (b2 == 1) = false := by have j1 : ¬ b2 = 1 := (fun j1 => by have := (G6.out j3 j1).1; omega); simpa using j1
      go_wp2_with fail
      go_ret
      exact ⟨rfl, (by repeat (first | with_reducible exact Ext.refl w | with_reducible refine Ext.drew ?_ | with_reducible refine Ext.drewN ?_ _ | with_reducible refine Ext.alloc ?_ _ | with_reducible refine Ext.setCell ?_ (by first | omega | (simp; done) | (simp; omega)) _))⟩
    · have e65 : (a2 == 3) = false := by simpa using j3
      go_wp2_with fail
      go_ret
      exact ⟨rfl, (by repeat (first | with_reducible exact Ext.refl w | with_reducible refine Ext.drew ?_ | with_reducible refine Ext.drewN ?_ _ | with_reducible refine Ext.alloc ?_ _ | with_reducible refine Ext.setCell ?_ (by first | omega | (simp; done) | (simp; omega)) _))⟩
theorem steps16_any (a b : (Int × Int × Int × Int × Bool × Bool)) (xK xI xH xC kd h : Int) (hK : Fits .i64 xK) (hH : Fits .i64 xH) (hkd : kd = xK % 5) (hh : h = xH % 1000) (hs : Steps a b kd h) (w : World) :
    Calls Try.prog 86 #[.agg #[.int .i64 a.1, .int .u64 a.2.1, .int .i64 a.2.2.1, .int .i64 a.2.2.2.1, .bool a.2.2.2.2.1, .bool a.2.2.2.2.2], .agg #[.int .i64 b.1, .int .u64 b.2.1, .int .i64 b.2.2.1, .int .i64 b.2.2.2.1, .bool b.2.2.2.2.1, .bool b.2.2.2.2.2], .agg #[.int .i64 xK, .int .i64 xI, .int .i64 xH, .int .i64 xC]] w fun r w' => r = .returned (.bool true) ∧ Ext w w' := by
  obtain ⟨a0, a1, a2, a3, a4, a5⟩ := a
  obtain ⟨b0, b1, b2, b3, b4, b5⟩ := b
  obtain ⟨s0, s1, s2, s3, s4, s5, s6, s7, s8, s9⟩ := hs
  simp only at s0 s1 s2 s3 s4 s5 s6 s7 s8 s9
  subst s0; subst s1
  by_cases h4 : a2 = 4
  · have e := s3 h4
    simp only [Prod.mk.injEq, true_and] at e
    obtain ⟨rfl, rfl, rfl, rfl⟩ := e
    subst h4
    have e4 : b4 = true := by rw [s9]; rfl
    subst e4
    exact steps16_tomb b0 b1 b3 b5 xK xI xH xC kd h hK hH hkd hh w
  · have e4 : a4 = false := by rw [s9]; exact decide_eq_false h4
    subst e4
    exact steps16_live b0 b1 a2 a3 b2 b3 a5 b4 b5 xK xI xH xC kd h hK hH hkd hh w h4 s2 s5 s6 s7 s8
end
section
open Go.RowKit Go.ChangeShapes Go.WideShapes Go.Deep Go.Joins

/-- what an act leaves -/
def DoRet (now : List (Int × Int × Int × Int × Bool × Bool)) (kd h : Int) (w : World) (r : Ending) (w' : World) : Prop := ∃ A c L e, r = .returned (.tuple #[.slice A (List.length L) c, .int .i64 e]) ∧ (A = none → c = 0) ∧ Sl w' 6 A L.length c (L.flatMap valC) ∧ DoesP now kd h L e ∧ Ext w w'
theorem DoRet.mk {now L : List (Int × Int × Int × Int × Bool × Bool)} {kd h e : Int} {w w' : World} {A : Option Addr} {c : Nat} (h1 : A = none → c = 0) (h2 : Sl w' 6 A L.length c (L.flatMap valC)) (h3 : DoesP now kd h L e) (h4 : Ext w w') : DoRet now kd h w (.returned (.tuple #[.slice A L.length c, .int .i64 e])) w' := ⟨A, c, L, e, rfl, h1, h2, h3, h4⟩
theorem fix_bad {now L : List (Int × Int × Int × Int × Bool × Bool)} {kd h e : Int} (hd : DoesP now kd h (fixV now (L, e)).1 (fixV now (L, e)).2) (he : e ≠ 0) : DoesP now kd h now e := by
  rw [show fixV now (L, e) = (now, e) from if_pos he] at hd
  exact hd
theorem fix_ok {now L : List (Int × Int × Int × Int × Bool × Bool)} {kd h e : Int} (hd : DoesP now kd h (fixV now (L, e)).1 (fixV now (L, e)).2) (he : ¬ e ≠ 0) : DoesP now kd h L e := by
  rw [show fixV now (L, e) = (L, e) from if_neg he] at hd
  exact hd
set_option maxRecDepth 100000 in
set_option maxHeartbeats 4000000 in
theorem does16_cre (A : Option Addr) (c : Nat) (now : List (Int × Int × Int × Int × Bool × Bool)) (xK xI xH xC v h e : Int) (n : Int) (L : List (Int × Int × Int × Int × Bool × Bool)) (w : World) (hs : Sl w 6 A now.length c (now.flatMap valC)) (hw : ∀ x ∈ now, (Lit.int .i64 x.1).wf = true) (hnil : A = none → c = 0) (hK : Fits .i64 xK) (hI : Fits .i64 xI) (hH : Fits .i64 xH) (hC : Fits .i64 xC) (hkd : 0 = xK % 5) (hv : v = xI % 8) (hh : h = xH % 1000) (hF : (L, n, e) = creV now v h) (hd : DoesP now 0 h (fixV now (L, e)).1 (fixV now (L, e)).2) :
    Calls Try.prog 85 #[.slice A now.length c, .agg #[.int .i64 xK, .int .i64 xI, .int .i64 xH, .int .i64 xC]] w (DoRet now 0 h w) := by
  have s1 := hs.small
  have hh0 : 0 ≤ h := by omega
  have hh1 : h < 1000 := by omega
  have hv0 : 0 ≤ v := by omega
  have HD := Lib.hid hd
  have HF := Lib.hid hF
  clear hd hF
  have HS := Lib.hid hs
  have HW := Lib.hid hw
  have GK := Lib.hid hK
  have GI := Lib.hid hI
  have GH := Lib.hid hH
  have GC := Lib.hid hC
  have Gk := Lib.hid hkd
  have Gv := Lib.hid hv
  have Gh := Lib.hid hh
  clear hs hw hK hI hH hC hkd hv hh
  go_enter Try.func85, Try.ntmps85
  go_wp2_with fail
  refine wp_region_held_drew (S := fun w' => w'.cell? ⟨w.heap.size, 1, none⟩ = some (.int .i64 xI) ∧ w'.cell? ⟨w.heap.size, 2, none⟩ = some (.int .i64 xH)) (by kernel_rfl) (by first | exact ⟨c0_1, c0_2⟩ | (simp [go_sem, World.cell?_alloc_past]; done)) (fun hHeld => ?_)
  (refine' take_in 0 rfl (by kernel_rfl) (by kernel_rfl) (by kernel_rfl) (fun _ _ _ h => h) (by rfl) (by assumption) ?_ ?_; rotate_left; focus (intro w hSw; (try dsimp only at hSw); go_simp; try with_reducible rfl)); try simp only [Act.put, List.setIfInBounds_toArray, List.set_cons_zero, List.set_cons_succ]
  (refine' take_in 1 rfl (by kernel_rfl) (by kernel_rfl) (by kernel_rfl) (fun _ _ _ h => h) (by rfl) (by assumption) ?_ ?_; rotate_left; focus (intro w hSw; (try dsimp only at hSw); go_simp; try with_reducible rfl)); try simp only [Act.put, List.setIfInBounds_toArray, List.set_cons_zero, List.set_cons_succ]
  (refine' take_in 3 rfl (by kernel_rfl) (by kernel_rfl) (by kernel_rfl) (fun _ _ _ h => h) (by rfl) (by assumption) ?_ ?_; rotate_left; focus (intro w hSw; (try dsimp only at hSw); go_simp; try with_reducible rfl)); try simp only [Act.put, List.setIfInBounds_toArray, List.set_cons_zero, List.set_cons_succ]
  (refine' take_in 4 rfl (by kernel_rfl) (by kernel_rfl) (by kernel_rfl) (fun _ _ _ h => h) (by rfl) (by assumption) ?_ ?_; rotate_left; focus (intro w hSw; (try dsimp only at hSw); go_simp; try with_reducible rfl)); try simp only [Act.put, List.setIfInBounds_toArray, List.set_cons_zero, List.set_cons_succ]
  refine' next_in 2 rfl (by kernel_rfl) (by rfl) (fun K hK => ?_)
  go_simp
  (with_reducible refine (pick_e xI 8 v GI.out (by decide) (by decide) Gv.out _).mono ?_)
  rintro e w_1 ⟨rfl, rfl⟩
  refine hK.out _ _ (by (first | exact ⟨c0_1, c0_2⟩ | (simp [go_sem, World.cell?_alloc_past]; done))) (fun hHeld => ?_); clear hK K; try simp only [Act.put, List.setIfInBounds_toArray, List.set_cons_zero, List.set_cons_succ]
  refine' next_in 5 rfl (by kernel_rfl) (by rfl) (fun K hK => ?_)
  go_simp
  (with_reducible refine (pick_e xH 1000 h GH.out (by decide) (by decide) Gh.out _).mono ?_)
  rintro e w_2 ⟨rfl, rfl⟩
  refine hK.out _ _ (by (first | exact ⟨c0_1, c0_2⟩ | (simp [go_sem, World.cell?_alloc_past]; done))) (fun hHeld => ?_); clear hK K; try simp only [Act.put, List.setIfInBounds_toArray, List.set_cons_zero, List.set_cons_succ]
  (refine' take_in 6 rfl (by kernel_rfl) (by kernel_rfl) (by kernel_rfl) (fun _ _ _ h => h) (by rfl) (by assumption) ?_ ?_; rotate_left; focus (intro w hSw; (try dsimp only at hSw); go_simp; try with_reducible rfl)); try simp only [Act.put, List.setIfInBounds_toArray, List.set_cons_zero, List.set_cons_succ]
  (refine' take_in 7 rfl (by kernel_rfl) (by kernel_rfl) (by kernel_rfl) (fun _ _ _ h => h) (by rfl) (by assumption) ?_ ?_; rotate_left; focus (intro w hSw; (try dsimp only at hSw); go_simp; try with_reducible rfl)); try simp only [Act.put, List.setIfInBounds_toArray, List.set_cons_zero, List.set_cons_succ]
  refine wpAnyH_done (by kernel_rfl) ?_ _
  go_wp2_with fail
  (with_reducible refine (pick_e xK 5 0 GK.out (by decide) (by decide) Gk.out _).mono ?_)
  rintro e w_3 ⟨rfl, rfl⟩
  go_wp2_with fail
  (with_reducible refine (rosCreate_ev A c now L v h n e _ (HS.out.ext (by repeat (first | with_reducible exact Ext.refl _ | with_reducible refine Ext.drew ?_ | with_reducible refine Ext.drewN ?_ _ | with_reducible refine Ext.alloc ?_ _ | with_reducible refine Ext.setCell ?_ (by first | omega | (simp; done) | (simp; omega)) _))) HW.out hnil HF.out).mono ?_)
  rintro e w1 ⟨A5, c5, rfl, hN5, hO, hx1⟩
  have z1 := hx1.size
  try simp at z1
  replace HS := Lib.hid (HS.out.ext (Ext.trans (by repeat (first | with_reducible exact Ext.refl _ | with_reducible refine Ext.drew ?_ | with_reducible refine Ext.drewN ?_ _ | with_reducible refine Ext.alloc ?_ _ | with_reducible refine Ext.setCell ?_ (by first | omega | (simp; done) | (simp; omega)) _)) hx1))
  have X1 : Hid (Ext w w1) := Lib.hid (Ext.trans (by repeat (first | with_reducible exact Ext.refl w | with_reducible refine Ext.drew ?_ | with_reducible refine Ext.drewN ?_ _ | with_reducible refine Ext.alloc ?_ _ | with_reducible refine Ext.setCell ?_ (by first | omega | (simp; done) | (simp; omega)) _)) hx1)
  have HL := Lib.hid (OwnVal.sl hO)
  clear hx1 z1
  have HN5 := Lib.hid hN5
  clear hN5
  by_cases he : e ≠ 0
  · have e7 : (e != 0) = true := by simpa using he
    go_wp2_with fail
    refine bodyPost_ret (v := .tuple #[.slice A now.length c, .int .i64 e]) (by simp [results, Try.results85, go_sem, World.cell?_alloc_past]; try rfl) rfl (DoRet.mk hnil (HS.out.ext (by repeat (first | with_reducible exact Ext.refl _ | with_reducible refine Ext.drew ?_ | with_reducible refine Ext.drewN ?_ _ | with_reducible refine Ext.alloc ?_ _ | with_reducible refine Ext.setCell ?_ (by first | omega | (simp; done) | (simp; omega)) _))) (fix_bad HD.out he) (by repeat (first | with_reducible exact X1.out | with_reducible refine Ext.drew ?_ | with_reducible refine Ext.drewN ?_ _ | with_reducible refine Ext.alloc ?_ _ | with_reducible refine Ext.setCell ?_ (by first | omega | (simp; done) | (simp; omega)) _)))
  · have e7 : (e != 0) = false := by simpa using he
    go_wp2_with fail
    refine bodyPost_ret (v := .tuple #[.slice A5 L.length c5, .int .i64 e]) (by simp [results, Try.results85, go_sem, World.cell?_alloc_past]; try rfl) rfl (DoRet.mk HN5.out (HL.out.ext (by repeat (first | with_reducible exact Ext.refl _ | with_reducible refine Ext.drew ?_ | with_reducible refine Ext.drewN ?_ _ | with_reducible refine Ext.alloc ?_ _ | with_reducible refine Ext.setCell ?_ (by first | omega | (simp; done) | (simp; omega)) _))) (fix_ok HD.out he) (by repeat (first | with_reducible exact X1.out | with_reducible refine Ext.drew ?_ | with_reducible refine Ext.drewN ?_ _ | with_reducible refine Ext.alloc ?_ _ | with_reducible refine Ext.setCell ?_ (by first | omega | (simp; done) | (simp; omega)) _)))
set_option maxRecDepth 100000 in
set_option maxHeartbeats 4000000 in
theorem does16_jail (A : Option Addr) (c : Nat) (now : List (Int × Int × Int × Int × Bool × Bool)) (xK xI xH xC v h e : Int) (u : Int) (L : List (Int × Int × Int × Int × Bool × Bool)) (w : World) (hs : Sl w 6 A now.length c (now.flatMap valC)) (hw : ∀ x ∈ now, (Lit.int .i64 x.1).wf = true) (hnil : A = none → c = 0) (hK : Fits .i64 xK) (hI : Fits .i64 xI) (hH : Fits .i64 xH) (hC : Fits .i64 xC) (hkd : 2 = xK % 5) (hv : v = xI % 8) (hh : h = xH % 1000) (hu : u = 1 + h) (hF : (L, e) = jailV now v u) (hd : DoesP now 2 h (fixV now (L, e)).1 (fixV now (L, e)).2) :
    Calls Try.prog 85 #[.slice A now.length c, .agg #[.int .i64 xK, .int .i64 xI, .int .i64 xH, .int .i64 xC]] w (DoRet now 2 h w) := by
  have s1 := hs.small
  have hh0 : 0 ≤ h := by omega
  have hh1 : h < 1000 := by omega
  have hv0 : 0 ≤ v := by omega
  have hwrap : IntKind.i64.wrap (1 + h) = u := by rw [hu]; exact IntWalk.i64_in _ (by omega)
  clear hu
  have HD := Lib.hid hd
  have HF := Lib.hid hF
  clear hd hF
  have HS := Lib.hid hs
  have HW := Lib.hid hw
  have GK := Lib.hid hK
  have GI := Lib.hid hI
  have GH := Lib.hid hH
  have GC := Lib.hid hC
  have Gk := Lib.hid hkd
  have Gv := Lib.hid hv
  have Gh := Lib.hid hh
  clear hs hw hK hI hH hC hkd hv hh
  go_enter Try.func85, Try.ntmps85
  go_wp2_with fail
  refine wp_region_held_drew (S := fun w' => w'.cell? ⟨w.heap.size, 1, none⟩ = some (.int .i64 xI) ∧ w'.cell? ⟨w.heap.size, 2, none⟩ = some (.int .i64 xH)) (by kernel_rfl) (by first | exact ⟨c0_1, c0_2⟩ | (simp [go_sem, World.cell?_alloc_past]; done)) (fun hHeld => ?_)
  (refine' take_in 0 rfl (by kernel_rfl) (by kernel_rfl) (by kernel_rfl) (fun _ _ _ h => h) (by rfl) (by assumption) ?_ ?_; rotate_left; focus (intro w hSw; (try dsimp only at hSw); go_simp; try with_reducible rfl)); try simp only [Act.put, List.setIfInBounds_toArray, List.set_cons_zero, List.set_cons_succ]
  (refine' take_in 1 rfl (by kernel_rfl) (by kernel_rfl) (by kernel_rfl) (fun _ _ _ h => h) (by rfl) (by assumption) ?_ ?_; rotate_left; focus (intro w hSw; (try dsimp only at hSw); go_simp; try with_reducible rfl)); try simp only [Act.put, List.setIfInBounds_toArray, List.set_cons_zero, List.set_cons_succ]
  (refine' take_in 3 rfl (by kernel_rfl) (by kernel_rfl) (by kernel_rfl) (fun _ _ _ h => h) (by rfl) (by assumption) ?_ ?_; rotate_left; focus (intro w hSw; (try dsimp only at hSw); go_simp; try with_reducible rfl)); try simp only [Act.put, List.setIfInBounds_toArray, List.set_cons_zero, List.set_cons_succ]
  (refine' take_in 4 rfl (by kernel_rfl) (by kernel_rfl) (by kernel_rfl) (fun _ _ _ h => h) (by rfl) (by assumption) ?_ ?_; rotate_left; focus (intro w hSw; (try dsimp only at hSw); go_simp; try with_reducible rfl)); try simp only [Act.put, List.setIfInBounds_toArray, List.set_cons_zero, List.set_cons_succ]
  refine' next_in 2 rfl (by kernel_rfl) (by rfl) (fun K hK => ?_)
  go_simp
  (with_reducible refine (pick_e xI 8 v GI.out (by decide) (by decide) Gv.out _).mono ?_)
  rintro e w_1 ⟨rfl, rfl⟩
  refine hK.out _ _ (by (first | exact ⟨c0_1, c0_2⟩ | (simp [go_sem, World.cell?_alloc_past]; done))) (fun hHeld => ?_); clear hK K; try simp only [Act.put, List.setIfInBounds_toArray, List.set_cons_zero, List.set_cons_succ]
  refine' next_in 5 rfl (by kernel_rfl) (by rfl) (fun K hK => ?_)
  go_simp
  (with_reducible refine (pick_e xH 1000 h GH.out (by decide) (by decide) Gh.out _).mono ?_)
  rintro e w_2 ⟨rfl, rfl⟩
  refine hK.out _ _ (by (first | exact ⟨c0_1, c0_2⟩ | (simp [go_sem, World.cell?_alloc_past]; done))) (fun hHeld => ?_); clear hK K; try simp only [Act.put, List.setIfInBounds_toArray, List.set_cons_zero, List.set_cons_succ]
  (refine' take_in 6 rfl (by kernel_rfl) (by kernel_rfl) (by kernel_rfl) (fun _ _ _ h => h) (by rfl) (by assumption) ?_ ?_; rotate_left; focus (intro w hSw; (try dsimp only at hSw); go_simp; try with_reducible rfl)); try simp only [Act.put, List.setIfInBounds_toArray, List.set_cons_zero, List.set_cons_succ]
  (refine' take_in 7 rfl (by kernel_rfl) (by kernel_rfl) (by kernel_rfl) (fun _ _ _ h => h) (by rfl) (by assumption) ?_ ?_; rotate_left; focus (intro w hSw; (try dsimp only at hSw); go_simp; try with_reducible rfl)); try simp only [Act.put, List.setIfInBounds_toArray, List.set_cons_zero, List.set_cons_succ]
  refine wpAnyH_done (by kernel_rfl) ?_ _
  go_wp2_with fail
  (with_reducible refine (pick_e xK 5 2 GK.out (by decide) (by decide) Gk.out _).mono ?_)
  rintro e w_3 ⟨rfl, rfl⟩
  go_wp2_with fail
  (with_reducible refine (rosJail_ev2 A c now L v u e _ (HS.out.ext (by repeat (first | with_reducible exact Ext.refl _ | with_reducible refine Ext.drew ?_ | with_reducible refine Ext.drewN ?_ _ | with_reducible refine Ext.alloc ?_ _ | with_reducible refine Ext.setCell ?_ (by first | omega | (simp; done) | (simp; omega)) _))) HW.out hnil HF.out).mono ?_)
  rintro e w1 ⟨A5, c5, rfl, hN5, hO, hx1⟩
  have z1 := hx1.size
  try simp at z1
  replace HS := Lib.hid (HS.out.ext (Ext.trans (by repeat (first | with_reducible exact Ext.refl _ | with_reducible refine Ext.drew ?_ | with_reducible refine Ext.drewN ?_ _ | with_reducible refine Ext.alloc ?_ _ | with_reducible refine Ext.setCell ?_ (by first | omega | (simp; done) | (simp; omega)) _)) hx1))
  have X1 : Hid (Ext w w1) := Lib.hid (Ext.trans (by repeat (first | with_reducible exact Ext.refl w | with_reducible refine Ext.drew ?_ | with_reducible refine Ext.drewN ?_ _ | with_reducible refine Ext.alloc ?_ _ | with_reducible refine Ext.setCell ?_ (by first | omega | (simp; done) | (simp; omega)) _)) hx1)
  have HL := Lib.hid (OwnVal.sl hO)
  clear hx1 z1
  have HN5 := Lib.hid hN5
  clear hN5
  by_cases he : e ≠ 0
  · have e7 : (e != 0) = true := by simpa using he
    go_wp2_with fail
    refine bodyPost_ret (v := .tuple #[.slice A now.length c, .int .i64 e]) (by simp [results, Try.results85, go_sem, World.cell?_alloc_past]; try rfl) rfl (DoRet.mk hnil (HS.out.ext (by repeat (first | with_reducible exact Ext.refl _ | with_reducible refine Ext.drew ?_ | with_reducible refine Ext.drewN ?_ _ | with_reducible refine Ext.alloc ?_ _ | with_reducible refine Ext.setCell ?_ (by first | omega | (simp; done) | (simp; omega)) _))) (fix_bad HD.out he) (by repeat (first | with_reducible exact X1.out | with_reducible refine Ext.drew ?_ | with_reducible refine Ext.drewN ?_ _ | with_reducible refine Ext.alloc ?_ _ | with_reducible refine Ext.setCell ?_ (by first | omega | (simp; done) | (simp; omega)) _)))
  · have e7 : (e != 0) = false := by simpa using he
    go_wp2_with fail
    refine bodyPost_ret (v := .tuple #[.slice A5 L.length c5, .int .i64 e]) (by simp [results, Try.results85, go_sem, World.cell?_alloc_past]; try rfl) rfl (DoRet.mk HN5.out (HL.out.ext (by repeat (first | with_reducible exact Ext.refl _ | with_reducible refine Ext.drew ?_ | with_reducible refine Ext.drewN ?_ _ | with_reducible refine Ext.alloc ?_ _ | with_reducible refine Ext.setCell ?_ (by first | omega | (simp; done) | (simp; omega)) _))) (fix_ok HD.out he) (by repeat (first | with_reducible exact X1.out | with_reducible refine Ext.drew ?_ | with_reducible refine Ext.drewN ?_ _ | with_reducible refine Ext.alloc ?_ _ | with_reducible refine Ext.setCell ?_ (by first | omega | (simp; done) | (simp; omega)) _)))
set_option maxRecDepth 100000 in
set_option maxHeartbeats 4000000 in
theorem does16_pun (A : Option Addr) (c : Nat) (now : List (Int × Int × Int × Int × Bool × Bool)) (xK xI xH xC v h e : Int) (u cl : Int) (L : List (Int × Int × Int × Int × Bool × Bool)) (w : World) (hs : Sl w 6 A now.length c (now.flatMap valC)) (hw : ∀ x ∈ now, (Lit.int .i64 x.1).wf = true) (hnil : A = none → c = 0) (hK : Fits .i64 xK) (hI : Fits .i64 xI) (hH : Fits .i64 xH) (hC : Fits .i64 xC) (hkd : 4 = xK % 5) (hv : v = xI % 8) (hh : h = xH % 1000) (hu : u = 1 + h) (hcl : cl = xC % 3) (hF : (L, e) = punV now v cl u) (hd : DoesP now 4 h (fixV now (L, e)).1 (fixV now (L, e)).2) :
    Calls Try.prog 85 #[.slice A now.length c, .agg #[.int .i64 xK, .int .i64 xI, .int .i64 xH, .int .i64 xC]] w (DoRet now 4 h w) := by
  have s1 := hs.small
  have hh0 : 0 ≤ h := by omega
  have hh1 : h < 1000 := by omega
  have hv0 : 0 ≤ v := by omega
  have hwrap : IntKind.i64.wrap (1 + h) = u := by rw [hu]; exact IntWalk.i64_in _ (by omega)
  have Gc := Lib.hid hcl
  clear hu hcl
  have HD := Lib.hid hd
  have HF := Lib.hid hF
  clear hd hF
  have HS := Lib.hid hs
  have HW := Lib.hid hw
  have GK := Lib.hid hK
  have GI := Lib.hid hI
  have GH := Lib.hid hH
  have GC := Lib.hid hC
  have Gk := Lib.hid hkd
  have Gv := Lib.hid hv
  have Gh := Lib.hid hh
  clear hs hw hK hI hH hC hkd hv hh
  go_enter Try.func85, Try.ntmps85
  go_wp2_with fail
  refine wp_region_held_drew (S := fun w' => w'.cell? ⟨w.heap.size, 1, none⟩ = some (.int .i64 xI) ∧ w'.cell? ⟨w.heap.size, 2, none⟩ = some (.int .i64 xH)) (by kernel_rfl) (by first | exact ⟨c0_1, c0_2⟩ | (simp [go_sem, World.cell?_alloc_past]; done)) (fun hHeld => ?_)
  (refine' take_in 0 rfl (by kernel_rfl) (by kernel_rfl) (by kernel_rfl) (fun _ _ _ h => h) (by rfl) (by assumption) ?_ ?_; rotate_left; focus (intro w hSw; (try dsimp only at hSw); go_simp; try with_reducible rfl)); try simp only [Act.put, List.setIfInBounds_toArray, List.set_cons_zero, List.set_cons_succ]
  (refine' take_in 1 rfl (by kernel_rfl) (by kernel_rfl) (by kernel_rfl) (fun _ _ _ h => h) (by rfl) (by assumption) ?_ ?_; rotate_left; focus (intro w hSw; (try dsimp only at hSw); go_simp; try with_reducible rfl)); try simp only [Act.put, List.setIfInBounds_toArray, List.set_cons_zero, List.set_cons_succ]
  (refine' take_in 3 rfl (by kernel_rfl) (by kernel_rfl) (by kernel_rfl) (fun _ _ _ h => h) (by rfl) (by assumption) ?_ ?_; rotate_left; focus (intro w hSw; (try dsimp only at hSw); go_simp; try with_reducible rfl)); try simp only [Act.put, List.setIfInBounds_toArray, List.set_cons_zero, List.set_cons_succ]
  (refine' take_in 4 rfl (by kernel_rfl) (by kernel_rfl) (by kernel_rfl) (fun _ _ _ h => h) (by rfl) (by assumption) ?_ ?_; rotate_left; focus (intro w hSw; (try dsimp only at hSw); go_simp; try with_reducible rfl)); try simp only [Act.put, List.setIfInBounds_toArray, List.set_cons_zero, List.set_cons_succ]
  refine' next_in 2 rfl (by kernel_rfl) (by rfl) (fun K hK => ?_)
  go_simp
  (with_reducible refine (pick_e xI 8 v GI.out (by decide) (by decide) Gv.out _).mono ?_)
  rintro e w_1 ⟨rfl, rfl⟩
  refine hK.out _ _ (by (first | exact ⟨c0_1, c0_2⟩ | (simp [go_sem, World.cell?_alloc_past]; done))) (fun hHeld => ?_); clear hK K; try simp only [Act.put, List.setIfInBounds_toArray, List.set_cons_zero, List.set_cons_succ]
  refine' next_in 5 rfl (by kernel_rfl) (by rfl) (fun K hK => ?_)
  go_simp
  (with_reducible refine (pick_e xH 1000 h GH.out (by decide) (by decide) Gh.out _).mono ?_)
  rintro e w_2 ⟨rfl, rfl⟩
  refine hK.out _ _ (by (first | exact ⟨c0_1, c0_2⟩ | (simp [go_sem, World.cell?_alloc_past]; done))) (fun hHeld => ?_); clear hK K; try simp only [Act.put, List.setIfInBounds_toArray, List.set_cons_zero, List.set_cons_succ]
  (refine' take_in 6 rfl (by kernel_rfl) (by kernel_rfl) (by kernel_rfl) (fun _ _ _ h => h) (by rfl) (by assumption) ?_ ?_; rotate_left; focus (intro w hSw; (try dsimp only at hSw); go_simp; try with_reducible rfl)); try simp only [Act.put, List.setIfInBounds_toArray, List.set_cons_zero, List.set_cons_succ]
  (refine' take_in 7 rfl (by kernel_rfl) (by kernel_rfl) (by kernel_rfl) (fun _ _ _ h => h) (by rfl) (by assumption) ?_ ?_; rotate_left; focus (intro w hSw; (try dsimp only at hSw); go_simp; try with_reducible rfl)); try simp only [Act.put, List.setIfInBounds_toArray, List.set_cons_zero, List.set_cons_succ]
  refine wpAnyH_done (by kernel_rfl) ?_ _
  go_wp2_with fail
  (with_reducible refine (pick_e xK 5 4 GK.out (by decide) (by decide) Gk.out _).mono ?_)
  rintro e w_3 ⟨rfl, rfl⟩
  go_wp2_with fail
  (with_reducible refine (pick_e xC 3 cl GC.out (by decide) (by decide) Gc.out _).mono ?_)
  rintro e w_4 ⟨rfl, rfl⟩
  go_wp2_with fail
  (with_reducible refine (rosPunish_ev A c now L v cl u e _ (HS.out.ext (by repeat (first | with_reducible exact Ext.refl _ | with_reducible refine Ext.drew ?_ | with_reducible refine Ext.drewN ?_ _ | with_reducible refine Ext.alloc ?_ _ | with_reducible refine Ext.setCell ?_ (by first | omega | (simp; done) | (simp; omega)) _))) HW.out hnil HF.out).mono ?_)
  rintro e w1 ⟨A5, c5, rfl, hN5, hO, hx1⟩
  have z1 := hx1.size
  try simp at z1
  replace HS := Lib.hid (HS.out.ext (Ext.trans (by repeat (first | with_reducible exact Ext.refl _ | with_reducible refine Ext.drew ?_ | with_reducible refine Ext.drewN ?_ _ | with_reducible refine Ext.alloc ?_ _ | with_reducible refine Ext.setCell ?_ (by first | omega | (simp; done) | (simp; omega)) _)) hx1))
  have X1 : Hid (Ext w w1) := Lib.hid (Ext.trans (by repeat (first | with_reducible exact Ext.refl w | with_reducible refine Ext.drew ?_ | with_reducible refine Ext.drewN ?_ _ | with_reducible refine Ext.alloc ?_ _ | with_reducible refine Ext.setCell ?_ (by first | omega | (simp; done) | (simp; omega)) _)) hx1)
  have HL := Lib.hid (OwnVal.sl hO)
  clear hx1 z1
  have HN5 := Lib.hid hN5
  clear hN5
  by_cases he : e ≠ 0
  · have e7 : (e != 0) = true := by simpa using he
    go_wp2_with fail
    refine bodyPost_ret (v := .tuple #[.slice A now.length c, .int .i64 e]) (by simp [results, Try.results85, go_sem, World.cell?_alloc_past]; try rfl) rfl (DoRet.mk hnil (HS.out.ext (by repeat (first | with_reducible exact Ext.refl _ | with_reducible refine Ext.drew ?_ | with_reducible refine Ext.drewN ?_ _ | with_reducible refine Ext.alloc ?_ _ | with_reducible refine Ext.setCell ?_ (by first | omega | (simp; done) | (simp; omega)) _))) (fix_bad HD.out he) (by repeat (first | with_reducible exact X1.out | with_reducible refine Ext.drew ?_ | with_reducible refine Ext.drewN ?_ _ | with_reducible refine Ext.alloc ?_ _ | with_reducible refine Ext.setCell ?_ (by first | omega | (simp; done) | (simp; omega)) _)))
  · have e7 : (e != 0) = false := by simpa using he
    go_wp2_with fail
    refine bodyPost_ret (v := .tuple #[.slice A5 L.length c5, .int .i64 e]) (by simp [results, Try.results85, go_sem, World.cell?_alloc_past]; try rfl) rfl (DoRet.mk HN5.out (HL.out.ext (by repeat (first | with_reducible exact Ext.refl _ | with_reducible refine Ext.drew ?_ | with_reducible refine Ext.drewN ?_ _ | with_reducible refine Ext.alloc ?_ _ | with_reducible refine Ext.setCell ?_ (by first | omega | (simp; done) | (simp; omega)) _))) (fix_ok HD.out he) (by repeat (first | with_reducible exact X1.out | with_reducible refine Ext.drew ?_ | with_reducible refine Ext.drewN ?_ _ | with_reducible refine Ext.alloc ?_ _ | with_reducible refine Ext.setCell ?_ (by first | omega | (simp; done) | (simp; omega)) _)))
set_option maxRecDepth 100000 in
set_option maxHeartbeats 4000000 in
theorem does16_unjo (A : Option Addr) (c : Nat) (now : List (Int × Int × Int × Int × Bool × Bool)) (xK xI xH xC v h e : Int) (L : List (Int × Int × Int × Int × Bool × Bool)) (w : World) (hs : Sl w 6 A now.length c (now.flatMap valC)) (hw : ∀ x ∈ now, (Lit.int .i64 x.1).wf = true) (hnil : A = none → c = 0) (hK : Fits .i64 xK) (hI : Fits .i64 xI) (hH : Fits .i64 xH) (hC : Fits .i64 xC) (hkd : 3 = xK % 5) (hv : v = xI % 8) (hh : h = xH % 1000) (ho : ¬ v < now.length) (hF : (L, e) = unjV now v v h) (hd : DoesP now 3 h (fixV now (L, e)).1 (fixV now (L, e)).2) :
    Calls Try.prog 85 #[.slice A now.length c, .agg #[.int .i64 xK, .int .i64 xI, .int .i64 xH, .int .i64 xC]] w (DoRet now 3 h w) := by
  have s1 := hs.small
  have hh0 : 0 ≤ h := by omega
  have hh1 : h < 1000 := by omega
  have hv0 : 0 ≤ v := by omega
  have HD := Lib.hid hd
  have HF := Lib.hid hF
  clear hd hF
  have HS := Lib.hid hs
  have HW := Lib.hid hw
  have GK := Lib.hid hK
  have GI := Lib.hid hI
  have GH := Lib.hid hH
  have GC := Lib.hid hC
  have Gk := Lib.hid hkd
  have Gv := Lib.hid hv
  have Gh := Lib.hid hh
  clear hs hw hK hI hH hC hkd hv hh
  go_enter Try.func85, Try.ntmps85
  go_wp2_with fail
  refine wp_region_held_drew (S := fun w' => w'.cell? ⟨w.heap.size, 1, none⟩ = some (.int .i64 xI) ∧ w'.cell? ⟨w.heap.size, 2, none⟩ = some (.int .i64 xH)) (by kernel_rfl) (by first | exact ⟨c0_1, c0_2⟩ | (simp [go_sem, World.cell?_alloc_past]; done)) (fun hHeld => ?_)
  (refine' take_in 0 rfl (by kernel_rfl) (by kernel_rfl) (by kernel_rfl) (fun _ _ _ h => h) (by rfl) (by assumption) ?_ ?_; rotate_left; focus (intro w hSw; (try dsimp only at hSw); go_simp; try with_reducible rfl)); try simp only [Act.put, List.setIfInBounds_toArray, List.set_cons_zero, List.set_cons_succ]
  (refine' take_in 1 rfl (by kernel_rfl) (by kernel_rfl) (by kernel_rfl) (fun _ _ _ h => h) (by rfl) (by assumption) ?_ ?_; rotate_left; focus (intro w hSw; (try dsimp only at hSw); go_simp; try with_reducible rfl)); try simp only [Act.put, List.setIfInBounds_toArray, List.set_cons_zero, List.set_cons_succ]
  (refine' take_in 3 rfl (by kernel_rfl) (by kernel_rfl) (by kernel_rfl) (fun _ _ _ h => h) (by rfl) (by assumption) ?_ ?_; rotate_left; focus (intro w hSw; (try dsimp only at hSw); go_simp; try with_reducible rfl)); try simp only [Act.put, List.setIfInBounds_toArray, List.set_cons_zero, List.set_cons_succ]
  (refine' take_in 4 rfl (by kernel_rfl) (by kernel_rfl) (by kernel_rfl) (fun _ _ _ h => h) (by rfl) (by assumption) ?_ ?_; rotate_left; focus (intro w hSw; (try dsimp only at hSw); go_simp; try with_reducible rfl)); try simp only [Act.put, List.setIfInBounds_toArray, List.set_cons_zero, List.set_cons_succ]
  refine' next_in 2 rfl (by kernel_rfl) (by rfl) (fun K hK => ?_)
  go_simp
  (with_reducible refine (pick_e xI 8 v GI.out (by decide) (by decide) Gv.out _).mono ?_)
  rintro e w_1 ⟨rfl, rfl⟩
  refine hK.out _ _ (by (first | exact ⟨c0_1, c0_2⟩ | (simp [go_sem, World.cell?_alloc_past]; done))) (fun hHeld => ?_); clear hK K; try simp only [Act.put, List.setIfInBounds_toArray, List.set_cons_zero, List.set_cons_succ]
  refine' next_in 5 rfl (by kernel_rfl) (by rfl) (fun K hK => ?_)
  go_simp
  (with_reducible refine (pick_e xH 1000 h GH.out (by decide) (by decide) Gh.out _).mono ?_)
  rintro e w_2 ⟨rfl, rfl⟩
  refine hK.out _ _ (by (first | exact ⟨c0_1, c0_2⟩ | (simp [go_sem, World.cell?_alloc_past]; done))) (fun hHeld => ?_); clear hK K; try simp only [Act.put, List.setIfInBounds_toArray, List.set_cons_zero, List.set_cons_succ]
  (refine' take_in 6 rfl (by kernel_rfl) (by kernel_rfl) (by kernel_rfl) (fun _ _ _ h => h) (by rfl) (by assumption) ?_ ?_; rotate_left; focus (intro w hSw; (try dsimp only at hSw); go_simp; try with_reducible rfl)); try simp only [Act.put, List.setIfInBounds_toArray, List.set_cons_zero, List.set_cons_succ]
  (refine' take_in 7 rfl (by kernel_rfl) (by kernel_rfl) (by kernel_rfl) (fun _ _ _ h => h) (by rfl) (by assumption) ?_ ?_; rotate_left; focus (intro w hSw; (try dsimp only at hSw); go_simp; try with_reducible rfl)); try simp only [Act.put, List.setIfInBounds_toArray, List.set_cons_zero, List.set_cons_succ]
  refine wpAnyH_done (by kernel_rfl) ?_ _
  go_wp2_with fail
  (with_reducible refine (pick_e xK 5 3 GK.out (by decide) (by decide) Gk.out _).mono ?_)
  rintro e w_3 ⟨rfl, rfl⟩
  go_wp2_with fail
  (with_reducible refine (rosUnjail_ev A c now L v v h e _ (HS.out.ext (by repeat (first | with_reducible exact Ext.refl _ | with_reducible refine Ext.drew ?_ | with_reducible refine Ext.drewN ?_ _ | with_reducible refine Ext.alloc ?_ _ | with_reducible refine Ext.setCell ?_ (by first | omega | (simp; done) | (simp; omega)) _))) HW.out hnil HF.out).mono ?_)
  rintro e w1 ⟨A5, c5, rfl, hN5, hO, hx1⟩
  have z1 := hx1.size
  try simp at z1
  replace HS := Lib.hid (HS.out.ext (Ext.trans (by repeat (first | with_reducible exact Ext.refl _ | with_reducible refine Ext.drew ?_ | with_reducible refine Ext.drewN ?_ _ | with_reducible refine Ext.alloc ?_ _ | with_reducible refine Ext.setCell ?_ (by first | omega | (simp; done) | (simp; omega)) _)) hx1))
  have X1 : Hid (Ext w w1) := Lib.hid (Ext.trans (by repeat (first | with_reducible exact Ext.refl w | with_reducible refine Ext.drew ?_ | with_reducible refine Ext.drewN ?_ _ | with_reducible refine Ext.alloc ?_ _ | with_reducible refine Ext.setCell ?_ (by first | omega | (simp; done) | (simp; omega)) _)) hx1)
  have HL := Lib.hid (OwnVal.sl hO)
  clear hx1 z1
  have HN5 := Lib.hid hN5
  clear hN5
  by_cases he : e ≠ 0
  · have e7 : (e != 0) = true := by simpa using he
    go_wp2_with fail
    refine bodyPost_ret (v := .tuple #[.slice A now.length c, .int .i64 e]) (by simp [results, Try.results85, go_sem, World.cell?_alloc_past]; try rfl) rfl (DoRet.mk hnil (HS.out.ext (by repeat (first | with_reducible exact Ext.refl _ | with_reducible refine Ext.drew ?_ | with_reducible refine Ext.drewN ?_ _ | with_reducible refine Ext.alloc ?_ _ | with_reducible refine Ext.setCell ?_ (by first | omega | (simp; done) | (simp; omega)) _))) (fix_bad HD.out he) (by repeat (first | with_reducible exact X1.out | with_reducible refine Ext.drew ?_ | with_reducible refine Ext.drewN ?_ _ | with_reducible refine Ext.alloc ?_ _ | with_reducible refine Ext.setCell ?_ (by first | omega | (simp; done) | (simp; omega)) _)))
  · have e7 : (e != 0) = false := by simpa using he
    go_wp2_with fail
    refine bodyPost_ret (v := .tuple #[.slice A5 L.length c5, .int .i64 e]) (by simp [results, Try.results85, go_sem, World.cell?_alloc_past]; try rfl) rfl (DoRet.mk HN5.out (HL.out.ext (by repeat (first | with_reducible exact Ext.refl _ | with_reducible refine Ext.drew ?_ | with_reducible refine Ext.drewN ?_ _ | with_reducible refine Ext.alloc ?_ _ | with_reducible refine Ext.setCell ?_ (by first | omega | (simp; done) | (simp; omega)) _))) (fix_ok HD.out he) (by repeat (first | with_reducible exact X1.out | with_reducible refine Ext.drew ?_ | with_reducible refine Ext.drewN ?_ _ | with_reducible refine Ext.alloc ?_ _ | with_reducible refine Ext.setCell ?_ (by first | omega | (simp; done) | (simp; omega)) _)))
set_option maxRecDepth 100000 in
set_option maxHeartbeats 4000000 in
theorem does16_unj (A : Option Addr) (c : Nat) (now : List (Int × Int × Int × Int × Bool × Bool)) (xK xI xH xC v h e : Int) (k : Nat) (x0 x1 x2 x3 p b : Int) (x4 x5 : Bool) (L : List (Int × Int × Int × Int × Bool × Bool)) (w : World) (hs : Sl w 6 A now.length c (now.flatMap valC)) (hw : ∀ x ∈ now, (Lit.int .i64 x.1).wf = true) (hnil : A = none → c = 0) (hK : Fits .i64 xK) (hI : Fits .i64 xI) (hH : Fits .i64 xH) (hC : Fits .i64 xC) (hkd : 3 = xK % 5) (hv : v = xI % 8) (hh : h = xH % 1000) (hvk : v = (k : Int)) (hk : now[k]? = some (x0, x1, x2, x3, x4, x5)) (hx0 : 0 ≤ x0) (hx1 : x0 < 64) (hp : p = xC % 2) (hb : b = x0 + p) (hF : (L, e) = unjV now v b h) (hd : DoesP now 3 h (fixV now (L, e)).1 (fixV now (L, e)).2) :
    Calls Try.prog 85 #[.slice A now.length c, .agg #[.int .i64 xK, .int .i64 xI, .int .i64 xH, .int .i64 xC]] w (DoRet now 3 h w) := by
  have s1 := hs.small
  have hh0 : 0 ≤ h := by omega
  have hh1 : h < 1000 := by omega
  have hv0 : 0 ≤ v := by omega
  subst hvk
  have hkn : (k : Int) < now.length := by have := (List.getElem?_eq_some_iff.1 hk).1; omega
  obtain ⟨b1, o1, rfl, hb1, hc1⟩ := hs.rec_ valC_len (show 0 < now.length from by have := (List.getElem?_eq_some_iff.1 hk).1; omega)
  have x_0 := hc1 k _ hk 0 _ rfl
  simp only at x_0
  rw [Nat.add_zero] at x_0
  have rx := hb1
  have rxa : b1 < w.heap.size + 1 := by omega
  have rxb : b1 < w.heap.size + 1 + 1 := by omega
  have rxc : b1 < w.heap.size + 1 + 1 + 1 := by omega
  have rxn : ¬ b1 = w.heap.size := by omega
  have hwrap : IntKind.i64.wrap (x0 + p) = b := by rw [hb]; exact IntWalk.i64_in _ (by omega)
  have Gp := Lib.hid hp
  have Gb := Lib.hid hb
  have Gx := Lib.hid hk
  clear hc1 hb hp hk
  have HD := Lib.hid hd
  have HF := Lib.hid hF
  clear hd hF
  have HS := Lib.hid hs
  have HW := Lib.hid hw
  have GK := Lib.hid hK
  have GI := Lib.hid hI
  have GH := Lib.hid hH
  have GC := Lib.hid hC
  have Gk := Lib.hid hkd
  have Gv := Lib.hid hv
  have Gh := Lib.hid hh
  clear hs hw hK hI hH hC hkd hv hh
  go_enter Try.func85, Try.ntmps85
  go_wp2_with fail
  refine wp_region_held_drew (S := fun w' => w'.cell? ⟨w.heap.size, 1, none⟩ = some (.int .i64 xI) ∧ w'.cell? ⟨w.heap.size, 2, none⟩ = some (.int .i64 xH)) (by kernel_rfl) (by first | exact ⟨c0_1, c0_2⟩ | (simp [go_sem, World.cell?_alloc_past, x_0, rx, rxa, rxb, rxc, rxn]; done)) (fun hHeld => ?_)
  (refine' take_in 0 rfl (by kernel_rfl) (by kernel_rfl) (by kernel_rfl) (fun _ _ _ h => h) (by rfl) (by assumption) ?_ ?_; rotate_left; focus (intro w hSw; (try dsimp only at hSw); go_simp; try with_reducible rfl)); try simp only [Act.put, List.setIfInBounds_toArray, List.set_cons_zero, List.set_cons_succ]
  (refine' take_in 1 rfl (by kernel_rfl) (by kernel_rfl) (by kernel_rfl) (fun _ _ _ h => h) (by rfl) (by assumption) ?_ ?_; rotate_left; focus (intro w hSw; (try dsimp only at hSw); go_simp; try with_reducible rfl)); try simp only [Act.put, List.setIfInBounds_toArray, List.set_cons_zero, List.set_cons_succ]
  (refine' take_in 3 rfl (by kernel_rfl) (by kernel_rfl) (by kernel_rfl) (fun _ _ _ h => h) (by rfl) (by assumption) ?_ ?_; rotate_left; focus (intro w hSw; (try dsimp only at hSw); go_simp; try with_reducible rfl)); try simp only [Act.put, List.setIfInBounds_toArray, List.set_cons_zero, List.set_cons_succ]
  (refine' take_in 4 rfl (by kernel_rfl) (by kernel_rfl) (by kernel_rfl) (fun _ _ _ h => h) (by rfl) (by assumption) ?_ ?_; rotate_left; focus (intro w hSw; (try dsimp only at hSw); go_simp; try with_reducible rfl)); try simp only [Act.put, List.setIfInBounds_toArray, List.set_cons_zero, List.set_cons_succ]
  refine' next_in 2 rfl (by kernel_rfl) (by rfl) (fun K hK => ?_)
  go_simp
  (with_reducible refine (pick_e xI 8 (k : Int) GI.out (by decide) (by decide) Gv.out _).mono ?_)
  rintro e w_1 ⟨rfl, rfl⟩
  refine hK.out _ _ (by (first | exact ⟨c0_1, c0_2⟩ | (simp [go_sem, World.cell?_alloc_past, x_0, rx, rxa, rxb, rxc, rxn]; done))) (fun hHeld => ?_); clear hK K; try simp only [Act.put, List.setIfInBounds_toArray, List.set_cons_zero, List.set_cons_succ]
  refine' next_in 5 rfl (by kernel_rfl) (by rfl) (fun K hK => ?_)
  go_simp
  (with_reducible refine (pick_e xH 1000 h GH.out (by decide) (by decide) Gh.out _).mono ?_)
  rintro e w_2 ⟨rfl, rfl⟩
  refine hK.out _ _ (by (first | exact ⟨c0_1, c0_2⟩ | (simp [go_sem, World.cell?_alloc_past, x_0, rx, rxa, rxb, rxc, rxn]; done))) (fun hHeld => ?_); clear hK K; try simp only [Act.put, List.setIfInBounds_toArray, List.set_cons_zero, List.set_cons_succ]
  (refine' take_in 6 rfl (by kernel_rfl) (by kernel_rfl) (by kernel_rfl) (fun _ _ _ h => h) (by rfl) (by assumption) ?_ ?_; rotate_left; focus (intro w hSw; (try dsimp only at hSw); go_simp; try with_reducible rfl)); try simp only [Act.put, List.setIfInBounds_toArray, List.set_cons_zero, List.set_cons_succ]
  (refine' take_in 7 rfl (by kernel_rfl) (by kernel_rfl) (by kernel_rfl) (fun _ _ _ h => h) (by rfl) (by assumption) ?_ ?_; rotate_left; focus (intro w hSw; (try dsimp only at hSw); go_simp; try with_reducible rfl)); try simp only [Act.put, List.setIfInBounds_toArray, List.set_cons_zero, List.set_cons_succ]
  refine wpAnyH_done (by kernel_rfl) ?_ _
  go_wp2_with fail
  (with_reducible refine (pick_e xK 5 3 GK.out (by decide) (by decide) Gk.out _).mono ?_)
  rintro e w_3 ⟨rfl, rfl⟩
  go_wp2_with fail
  refine wp_region_held_drew (S := fun w' => w'.cell? ⟨w.heap.size, 3, none⟩ = some (.int .i64 xC) ∧ w'.cell? ⟨b1, o1 + k * 6, none⟩ = some (.int .i64 x0)) (by kernel_rfl) (by first | exact ⟨c0_3, x_0⟩ | (simp [go_sem, World.cell?_alloc_past, x_0, rx, rxa, rxb, rxc, rxn]; done)) (fun hHeld => ?_)
  (refine' take_in 0 rfl (by kernel_rfl) (by kernel_rfl) (by kernel_rfl) (fun _ _ _ h => h) (by rfl) (by assumption) ?_ ?_; rotate_left; focus (intro w hSw; (try dsimp only at hSw); go_simp; try with_reducible rfl)); try simp only [Act.put, List.setIfInBounds_toArray, List.set_cons_zero, List.set_cons_succ]
  (refine' take_in 1 rfl (by kernel_rfl) (by kernel_rfl) (by kernel_rfl) (fun _ _ _ h => h) (by rfl) (by assumption) ?_ ?_; rotate_left; focus (intro w hSw; (try dsimp only at hSw); go_simp; try with_reducible rfl)); try simp only [Act.put, List.setIfInBounds_toArray, List.set_cons_zero, List.set_cons_succ]
  (refine' take_in 2 rfl (by kernel_rfl) (by kernel_rfl) (by kernel_rfl) (fun _ _ _ h => h) (by rfl) (by assumption) ?_ ?_; rotate_left; focus (intro w hSw; (try dsimp only at hSw); go_simp; try with_reducible rfl)); try simp only [Act.put, List.setIfInBounds_toArray, List.set_cons_zero, List.set_cons_succ]
  (refine' take_in 3 rfl (by kernel_rfl) (by kernel_rfl) (by kernel_rfl) (fun _ _ _ h => h) (by rfl) (by assumption) ?_ ?_; rotate_left; focus (intro w hSw; (try dsimp only at hSw); go_simp; try with_reducible rfl)); try simp only [Act.put, List.setIfInBounds_toArray, List.set_cons_zero, List.set_cons_succ]
  (refine' take_in 4 rfl (by kernel_rfl) (by kernel_rfl) (by kernel_rfl) (fun _ _ _ h => h) (by rfl) (by assumption) ?_ ?_; rotate_left; focus (intro w hSw; (try dsimp only at hSw); go_simp; try with_reducible rfl)); try simp only [Act.put, List.setIfInBounds_toArray, List.set_cons_zero, List.set_cons_succ]
  (refine' take_in 5 rfl (by kernel_rfl) (by kernel_rfl) (by kernel_rfl) (fun _ _ _ h => h) (by rfl) (by assumption) ?_ ?_; rotate_left; focus (intro w hSw; (try dsimp only at hSw); go_simp; try with_reducible rfl)); try simp only [Act.put, List.setIfInBounds_toArray, List.set_cons_zero, List.set_cons_succ]
  (refine' take_in 6 rfl (by kernel_rfl) (by kernel_rfl) (by kernel_rfl) (fun _ _ _ h => h) (by rfl) (by assumption) ?_ ?_; rotate_left; focus (intro w hSw; (try dsimp only at hSw); go_simp; try with_reducible rfl)); try simp only [Act.put, List.setIfInBounds_toArray, List.set_cons_zero, List.set_cons_succ]
  refine' next_in 7 rfl (by kernel_rfl) (by rfl) (fun K hK => ?_)
  go_simp
  (with_reducible refine (pick_e xC 2 p GC.out (by decide) (by decide) Gp.out _).mono ?_)
  rintro e w_4 ⟨rfl, rfl⟩
  refine hK.out _ _ (by (first | exact ⟨c0_3, x_0⟩ | (simp [go_sem, World.cell?_alloc_past, x_0, rx, rxa, rxb, rxc, rxn]; done))) (fun hHeld => ?_); clear hK K; try simp only [Act.put, List.setIfInBounds_toArray, List.set_cons_zero, List.set_cons_succ]
  (refine' take_in 8 rfl (by kernel_rfl) (by kernel_rfl) (by kernel_rfl) (fun _ _ _ h => h) (by rfl) (by assumption) ?_ ?_; rotate_left; focus (intro w hSw; (try dsimp only at hSw); go_simp; try with_reducible rfl)); try simp only [Act.put, List.setIfInBounds_toArray, List.set_cons_zero, List.set_cons_succ]
  (refine' take_in 9 rfl (by kernel_rfl) (by kernel_rfl) (by kernel_rfl) (fun _ _ _ h => h) (by rfl) (by assumption) ?_ ?_; rotate_left; focus (intro w hSw; (try dsimp only at hSw); go_simp; try with_reducible rfl)); try simp only [Act.put, List.setIfInBounds_toArray, List.set_cons_zero, List.set_cons_succ]
  refine wpAnyH_done (by kernel_rfl) ?_ _
  go_wp2_with fail
  (with_reducible refine (rosUnjail_ev (some ⟨b1, o1, none⟩) c now L (k : Int) b h e _ (HS.out.ext (by repeat (first | with_reducible exact Ext.refl _ | with_reducible refine Ext.drew ?_ | with_reducible refine Ext.drewN ?_ _ | with_reducible refine Ext.alloc ?_ _ | with_reducible refine Ext.setCell ?_ (by first | omega | (simp; done) | (simp; omega)) _))) HW.out hnil HF.out).mono ?_)
  rintro e w1 ⟨A5, c5, rfl, hN5, hO, hx1⟩
  replace x_0 : w1.cell? ⟨b1, o1 + k * 6, none⟩ = some (.int .i64 x0) := hx1.has (by first | exact x_0 | (simp [go_sem, World.cell?_alloc_past, x_0, rx, rxa, rxb, rxc, rxn]; done))
  have c0_3 : w1.cell? ⟨w.heap.size, 3, none⟩ = some (.int .i64 xC) := hx1.has (by first | fail | (simp [go_sem, World.cell?_alloc_past, x_0, rx, rxa, rxb, rxc, rxn]; done))
  have z1 := hx1.size
  try simp at z1
  have lt_x_c0 : b1 < w.heap.size := by omega
  have ne_x_c0 : ¬ b1 = w.heap.size := by omega
  have ne_c0_x : ¬ w.heap.size = b1 := by omega
  replace rx : b1 < w1.heap.size := by omega
  replace rxa : b1 < w1.heap.size + 1 := by omega
  replace rxb : b1 < w1.heap.size + 1 + 1 := by omega
  replace rxc : b1 < w1.heap.size + 1 + 1 + 1 := by omega
  replace rxn : ¬ b1 = w1.heap.size := by omega
  have rc0 : w.heap.size < w1.heap.size := by omega
  have rc0a : w.heap.size < w1.heap.size + 1 := by omega
  have rc0b : w.heap.size < w1.heap.size + 1 + 1 := by omega
  have rc0c : w.heap.size < w1.heap.size + 1 + 1 + 1 := by omega
  have rc0n : ¬ w.heap.size = w1.heap.size := by omega
  replace HS := Lib.hid (HS.out.ext (Ext.trans (by repeat (first | with_reducible exact Ext.refl _ | with_reducible refine Ext.drew ?_ | with_reducible refine Ext.drewN ?_ _ | with_reducible refine Ext.alloc ?_ _ | with_reducible refine Ext.setCell ?_ (by first | omega | (simp; done) | (simp; omega)) _)) hx1))
  have X1 : Hid (Ext w w1) := Lib.hid (Ext.trans (by repeat (first | with_reducible exact Ext.refl w | with_reducible refine Ext.drew ?_ | with_reducible refine Ext.drewN ?_ _ | with_reducible refine Ext.alloc ?_ _ | with_reducible refine Ext.setCell ?_ (by first | omega | (simp; done) | (simp; omega)) _)) hx1)
  have HL := Lib.hid (OwnVal.sl hO)
  clear hx1 z1
  have HN5 := Lib.hid hN5
  clear hN5
  by_cases he : e ≠ 0
  · have e7 : (e != 0) = true := by simpa using he
    go_wp2_with fail
    refine bodyPost_ret (v := .tuple #[.slice (some ⟨b1, o1, none⟩) now.length c, .int .i64 e]) (by simp [results, Try.results85, go_sem, World.cell?_alloc_past, x_0, c0_3, ne_x_c0, ne_c0_x, rx, rxa, rxb, rxc, rxn, rc0, rc0a, rc0b, rc0c, rc0n]; try rfl) rfl (DoRet.mk hnil (HS.out.ext (by repeat (first | with_reducible exact Ext.refl _ | with_reducible refine Ext.drew ?_ | with_reducible refine Ext.drewN ?_ _ | with_reducible refine Ext.alloc ?_ _ | with_reducible refine Ext.setCell ?_ (by first | omega | (simp; done) | (simp; omega)) _))) (fix_bad HD.out he) (by repeat (first | with_reducible exact X1.out | with_reducible refine Ext.drew ?_ | with_reducible refine Ext.drewN ?_ _ | with_reducible refine Ext.alloc ?_ _ | with_reducible refine Ext.setCell ?_ (by first | omega | (simp; done) | (simp; omega)) _)))
  · have e7 : (e != 0) = false := by simpa using he
    go_wp2_with fail
    refine bodyPost_ret (v := .tuple #[.slice A5 L.length c5, .int .i64 e]) (by simp [results, Try.results85, go_sem, World.cell?_alloc_past, x_0, c0_3, ne_x_c0, ne_c0_x, rx, rxa, rxb, rxc, rxn, rc0, rc0a, rc0b, rc0c, rc0n]; try rfl) rfl (DoRet.mk HN5.out (HL.out.ext (by repeat (first | with_reducible exact Ext.refl _ | with_reducible refine Ext.drew ?_ | with_reducible refine Ext.drewN ?_ _ | with_reducible refine Ext.alloc ?_ _ | with_reducible refine Ext.setCell ?_ (by first | omega | (simp; done) | (simp; omega)) _))) (fix_ok HD.out he) (by repeat (first | with_reducible exact X1.out | with_reducible refine Ext.drew ?_ | with_reducible refine Ext.drewN ?_ _ | with_reducible refine Ext.alloc ?_ _ | with_reducible refine Ext.setCell ?_ (by first | omega | (simp; done) | (simp; omega)) _)))
set_option maxRecDepth 100000 in
set_option maxHeartbeats 4000000 in
theorem does16_cho (A : Option Addr) (c : Nat) (now : List (Int × Int × Int × Int × Bool × Bool)) (xK xI xH xC v h e : Int)  (w : World) (hs : Sl w 6 A now.length c (now.flatMap valC)) (hw : ∀ x ∈ now, (Lit.int .i64 x.1).wf = true) (hnil : A = none → c = 0) (hK : Fits .i64 xK) (hI : Fits .i64 xI) (hH : Fits .i64 xH) (hC : Fits .i64 xC) (hkd : 1 = xK % 5) (hv : v = xI % 8) (hh : h = xH % 1000) (hd : ∀ act : List Bool, DoesP now 1 h (fixV now (choV now act)).1 (fixV now (choV now act)).2) (hn32 : now.length ≤ 32) :
    Calls Try.prog 85 #[.slice A now.length c, .agg #[.int .i64 xK, .int .i64 xI, .int .i64 xH, .int .i64 xC]] w (DoRet now 1 h w) := by
  have s1 := hs.small
  have hh0 : 0 ≤ h := by omega
  have hh1 : h < 1000 := by omega
  have hv0 : 0 ≤ v := by omega
  have HDA := Lib.hid hd
  have hsh : ∀ y : Int, 0 ≤ y → (Op.shift .shr .i64 h .i64 y) = pure (.int .i64 (h / 2 ^ min y.toNat 64)) := fun y hy => shift_shr_any .i64 .i64 h y hy
  obtain ⟨i0, hi0, hz0, hz1, hz2⟩ := info_parts bool_info
  clear hd
  have HS := Lib.hid hs
  have HW := Lib.hid hw
  have GK := Lib.hid hK
  have GI := Lib.hid hI
  have GH := Lib.hid hH
  have GC := Lib.hid hC
  have Gk := Lib.hid hkd
  have Gv := Lib.hid hv
  have Gh := Lib.hid hh
  clear hs hw hK hI hH hC hkd hv hh
  go_enter Try.func85, Try.ntmps85
  go_wp2_with fail
  refine wp_region_held_drew (S := fun w' => w'.cell? ⟨w.heap.size, 1, none⟩ = some (.int .i64 xI) ∧ w'.cell? ⟨w.heap.size, 2, none⟩ = some (.int .i64 xH)) (by kernel_rfl) (by first | exact ⟨c0_1, c0_2⟩ | (simp [go_sem, World.cell?_alloc_past]; done)) (fun hHeld => ?_)
  (refine' take_in 0 rfl (by kernel_rfl) (by kernel_rfl) (by kernel_rfl) (fun _ _ _ h => h) (by rfl) (by assumption) ?_ ?_; rotate_left; focus (intro w hSw; (try dsimp only at hSw); go_simp; try with_reducible rfl)); try simp only [Act.put, List.setIfInBounds_toArray, List.set_cons_zero, List.set_cons_succ]
  (refine' take_in 1 rfl (by kernel_rfl) (by kernel_rfl) (by kernel_rfl) (fun _ _ _ h => h) (by rfl) (by assumption) ?_ ?_; rotate_left; focus (intro w hSw; (try dsimp only at hSw); go_simp; try with_reducible rfl)); try simp only [Act.put, List.setIfInBounds_toArray, List.set_cons_zero, List.set_cons_succ]
  (refine' take_in 3 rfl (by kernel_rfl) (by kernel_rfl) (by kernel_rfl) (fun _ _ _ h => h) (by rfl) (by assumption) ?_ ?_; rotate_left; focus (intro w hSw; (try dsimp only at hSw); go_simp; try with_reducible rfl)); try simp only [Act.put, List.setIfInBounds_toArray, List.set_cons_zero, List.set_cons_succ]
  (refine' take_in 4 rfl (by kernel_rfl) (by kernel_rfl) (by kernel_rfl) (fun _ _ _ h => h) (by rfl) (by assumption) ?_ ?_; rotate_left; focus (intro w hSw; (try dsimp only at hSw); go_simp; try with_reducible rfl)); try simp only [Act.put, List.setIfInBounds_toArray, List.set_cons_zero, List.set_cons_succ]
  refine' next_in 2 rfl (by kernel_rfl) (by rfl) (fun K hK => ?_)
  go_simp
  (with_reducible refine (pick_e xI 8 v GI.out (by decide) (by decide) Gv.out _).mono ?_)
  rintro e w_1 ⟨rfl, rfl⟩
  refine hK.out _ _ (by (first | exact ⟨c0_1, c0_2⟩ | (simp [go_sem, World.cell?_alloc_past]; done))) (fun hHeld => ?_); clear hK K; try simp only [Act.put, List.setIfInBounds_toArray, List.set_cons_zero, List.set_cons_succ]
  refine' next_in 5 rfl (by kernel_rfl) (by rfl) (fun K hK => ?_)
  go_simp
  (with_reducible refine (pick_e xH 1000 h GH.out (by decide) (by decide) Gh.out _).mono ?_)
  rintro e w_2 ⟨rfl, rfl⟩
  refine hK.out _ _ (by (first | exact ⟨c0_1, c0_2⟩ | (simp [go_sem, World.cell?_alloc_past]; done))) (fun hHeld => ?_); clear hK K; try simp only [Act.put, List.setIfInBounds_toArray, List.set_cons_zero, List.set_cons_succ]
  (refine' take_in 6 rfl (by kernel_rfl) (by kernel_rfl) (by kernel_rfl) (fun _ _ _ h => h) (by rfl) (by assumption) ?_ ?_; rotate_left; focus (intro w hSw; (try dsimp only at hSw); go_simp; try with_reducible rfl)); try simp only [Act.put, List.setIfInBounds_toArray, List.set_cons_zero, List.set_cons_succ]
  (refine' take_in 7 rfl (by kernel_rfl) (by kernel_rfl) (by kernel_rfl) (fun _ _ _ h => h) (by rfl) (by assumption) ?_ ?_; rotate_left; focus (intro w hSw; (try dsimp only at hSw); go_simp; try with_reducible rfl)); try simp only [Act.put, List.setIfInBounds_toArray, List.set_cons_zero, List.set_cons_succ]
  refine wpAnyH_done (by kernel_rfl) ?_ _
  go_wp2_with fail
  (with_reducible refine (pick_e xK 5 1 GK.out (by decide) (by decide) Gk.out _).mono ?_)
  rintro e w_3 ⟨rfl, rfl⟩
  go_wp2_with fail
  (with_reducible refine (rosFree_n A c now _ (HS.out.ext (by repeat (first | with_reducible exact Ext.refl _ | with_reducible refine Ext.drew ?_ | with_reducible refine Ext.drewN ?_ _ | with_reducible refine Ext.alloc ?_ _ | with_reducible refine Ext.setCell ?_ (by first | omega | (simp; done) | (simp; omega)) _))) (by omega)).mono ?_)
  rintro e w1 ⟨A4, c4, rfl, hO4, hx1⟩
  have z1 := hx1.size
  try simp at z1
  replace HS := Lib.hid (HS.out.ext (Ext.trans (by repeat (first | with_reducible exact Ext.refl _ | with_reducible refine Ext.drew ?_ | with_reducible refine Ext.drewN ?_ _ | with_reducible refine Ext.alloc ?_ _ | with_reducible refine Ext.setCell ?_ (by first | omega | (simp; done) | (simp; omega)) _)) hx1))
  have X1 : Hid (Ext w w1) := Lib.hid (Ext.trans (by repeat (first | with_reducible exact Ext.refl w | with_reducible refine Ext.drew ?_ | with_reducible refine Ext.drewN ?_ _ | with_reducible refine Ext.alloc ?_ _ | with_reducible refine Ext.setCell ?_ (by first | omega | (simp; done) | (simp; omega)) _)) hx1)
  have HFr := Lib.hid hO4
  clear hx1 z1 hO4
  have HSb := Lib.hid (Sl.low HS.out)
  have HFb := Lib.hid (Sl.low (OwnB.sl HFr.out))
  go_wp2_with fail
  go_loopg [10, 12] now.length (fun gh q i wx => gh ≤ now.length ∧ i = .int .i64 ((now.length - gh : Nat) : Int) ∧ (∃ on : List Bool, Hid (on.length = now.length - gh ∧ OwnB wx w1.heap.size q on.length on)) ∧ Hid (SlB w1.heap.size wx 6 A now.length c (now.flatMap valC)) ∧ Hid (SlB w1.heap.size wx 1 A4 now.length c4 ((freeV now).map Value.bool)) ∧ w1.heap.size ≤ wx.heap.size ∧ Ext w wx)
  case atStart => exact ⟨Nat.le_refl _, by simp, ⟨[], Lib.hid ⟨by simp, OwnB.nil _ _⟩⟩, HSb, HFb, Nat.le_refl _, X1.out⟩
  case round =>
    obtain ⟨hg, hi, ⟨on, hon⟩, hS, hB, hwr, hx⟩ := hrel
    obtain ⟨k, hk⟩ : ∃ k, k = now.length - gk := ⟨_, rfl⟩
    rw [← hk] at hi hon
    subst hi
    have XR := Lib.hid hx
    have HS1 := hS
    have HB1 := hB
    have hw0 : w.heap.size ≤ w1.heap.size := Ext.size X1.out
    by_cases hz : gk = 0
    · have hkn : ¬ (k : Int) < now.length := by omega
      obtain ⟨A9, c9, rfl, hA9, hSl9⟩ := own_parts2 hon.out.2
      have HON := Lib.hid hSl9
      obtain ⟨⟨L, e⟩, hF⟩ : ∃ F, F = choV now on := ⟨_, rfl⟩
      have HF := Lib.hid hF
      have HD := Lib.hid (by have h := HDA.out on; rw [← hF] at h; exact h)
      clear hx hk hg hz hF hSl9 hon hS hB
      go_wp2_with fail
      (with_reducible refine (rosChoose_ev2 A c now L A9 on.length c9 on e _ (HS1.out.ext (by repeat (first | with_reducible exact Ext.refl _ | with_reducible refine Ext.drew ?_ | with_reducible refine Ext.drewN ?_ _ | with_reducible refine Ext.alloc ?_ _ | with_reducible refine Ext.setCell ?_ (by first | omega | (simp; done) | (simp; omega)) _))).sl (HON.out.ext (by repeat (first | with_reducible exact Ext.refl _ | with_reducible refine Ext.drew ?_ | with_reducible refine Ext.drewN ?_ _ | with_reducible refine Ext.alloc ?_ _ | with_reducible refine Ext.setCell ?_ (by first | omega | (simp; done) | (simp; omega)) _))) HW.out hnil HF.out).mono ?_)
      rintro e w41 ⟨A5, c5, rfl, hN5, hO, hx41⟩
      have z41 := hx41.size
      try simp at z41
      replace HS1 := Lib.hid (HS1.out.ext (Ext.trans (by repeat (first | with_reducible exact Ext.refl _ | with_reducible refine Ext.drew ?_ | with_reducible refine Ext.drewN ?_ _ | with_reducible refine Ext.alloc ?_ _ | with_reducible refine Ext.setCell ?_ (by first | omega | (simp; done) | (simp; omega)) _)) hx41))
      replace HON := Lib.hid (HON.out.ext (Ext.trans (by repeat (first | with_reducible exact Ext.refl _ | with_reducible refine Ext.drew ?_ | with_reducible refine Ext.drewN ?_ _ | with_reducible refine Ext.alloc ?_ _ | with_reducible refine Ext.setCell ?_ (by first | omega | (simp; done) | (simp; omega)) _)) hx41))
      have X41 : Hid (Ext w w41) := Lib.hid (Ext.trans (by repeat (first | with_reducible exact XR.out | with_reducible refine Ext.drew ?_ | with_reducible refine Ext.drewN ?_ _ | with_reducible refine Ext.alloc ?_ _ | with_reducible refine Ext.setCell ?_ (by first | omega | (simp; done) | (simp; omega)) _)) hx41)
      have HL := Lib.hid (OwnVal.sl hO)
      clear XR hx41 z41
      have HN5 := Lib.hid hN5
      clear hN5
      by_cases he : e ≠ 0
      · have e7 : (e != 0) = true := by simpa using he
        go_wp2_with fail
        refine bodyPost_ret (v := .tuple #[.slice A now.length c, .int .i64 e]) (by simp [results, Try.results85, go_sem, World.cell?_alloc_past]; try rfl) rfl (DoRet.mk hnil (HS1.out.ext (by repeat (first | with_reducible exact Ext.refl _ | with_reducible refine Ext.drew ?_ | with_reducible refine Ext.drewN ?_ _ | with_reducible refine Ext.alloc ?_ _ | with_reducible refine Ext.setCell ?_ (by first | omega | (simp; done) | (simp; omega)) _))).sl (fix_bad HD.out he) (by repeat (first | with_reducible exact X41.out | with_reducible refine Ext.drew ?_ | with_reducible refine Ext.drewN ?_ _ | with_reducible refine Ext.alloc ?_ _ | with_reducible refine Ext.setCell ?_ (by first | omega | (simp; done) | (simp; omega)) _)))
      · have e7 : (e != 0) = false := by simpa using he
        go_wp2_with fail
        refine bodyPost_ret (v := .tuple #[.slice A5 L.length c5, .int .i64 e]) (by simp [results, Try.results85, go_sem, World.cell?_alloc_past]; try rfl) rfl (DoRet.mk HN5.out (HL.out.ext (by repeat (first | with_reducible exact Ext.refl _ | with_reducible refine Ext.drew ?_ | with_reducible refine Ext.drewN ?_ _ | with_reducible refine Ext.alloc ?_ _ | with_reducible refine Ext.setCell ?_ (by first | omega | (simp; done) | (simp; omega)) _))) (fix_ok HD.out he) (by repeat (first | with_reducible exact X41.out | with_reducible refine Ext.drew ?_ | with_reducible refine Ext.drewN ?_ _ | with_reducible refine Ext.alloc ?_ _ | with_reducible refine Ext.setCell ?_ (by first | omega | (simp; done) | (simp; omega)) _)))
    · have hkn : (k : Int) < now.length := by omega
      have hk1 : k < now.length := by omega
      obtain ⟨b4, o4, rfl, hb4, hc4⟩ := hB.out.sl.at_ (show 0 < now.length from by omega)
      obtain ⟨f, hf⟩ : ∃ f, f = isFree now[k] := ⟨_, rfl⟩
      have f_0 : wr.cell? ⟨b4, o4 + k, none⟩ = some (.bool f) := hc4 k _ (by rw [List.getElem?_map, freeV, List.getElem?_map, List.getElem?_eq_getElem hk1, hf]; rfl)
      have h9 : 0 ≤ (k : Int) % 9 := by omega
      have hln := hon.out.1
      have HK := Lib.hid (And.intro hk (And.intro hg hz))
      have HO := Lib.hid hon.out.2
      have GL := Lib.hid hln
      clear hx hk hg hz hc4 hf hon hS hB hln hk1
      cases f
      · skip
        go_wp2_with (at_builtin; refine wpList_append_new wr rfl _ _ 50 rfl w1.heap.size 4 i0 (.bool false) 1 1 Try.underlying50 hi0 hz0 hz1 hz2 rfl (by decide) u10 on.length _ (by rfl) HO.out #[.bool _] 1 (by rfl) rfl (by intro u hu; simp at hu; subst hu; rfl) (by have := GL.out; omega) (by decide) (by omega) ?_; intro v2 wn hown2 hb2)
        go_roundg (gk - 1)
        case measure => have := HK.out; omega
        case rel =>
          refine ⟨by have := HK.out; omega, num_eq (by have := HK.out; omega), ⟨on ++ [_], Lib.hid ⟨by simp; have := HK.out; have := GL.out; omega, by simpa using OwnB.snoc hown2⟩⟩, Lib.hid (SlB.bel HS1.out hb2 (Nat.le_refl _)), Lib.hid (SlB.bel HB1.out hb2 (Nat.le_refl _)), (by have := hb2.size; omega), Ext.bel XR.out hb2 hw0⟩
      · skip
        go_wp2_with (at_builtin; refine wpList_append_new wr rfl _ _ 50 rfl w1.heap.size 4 i0 (.bool false) 1 1 Try.underlying50 hi0 hz0 hz1 hz2 rfl (by decide) u10 on.length _ (by rfl) HO.out #[.bool _] 1 (by rfl) rfl (by intro u hu; simp at hu; subst hu; rfl) (by have := GL.out; omega) (by decide) (by omega) ?_; intro v2 wn hown2 hb2)
        go_roundg (gk - 1)
        case measure => have := HK.out; omega
        case rel =>
          refine ⟨by have := HK.out; omega, num_eq (by have := HK.out; omega), ⟨on ++ [_], Lib.hid ⟨by simp; have := HK.out; have := GL.out; omega, by simpa using OwnB.snoc hown2⟩⟩, Lib.hid (SlB.bel HS1.out hb2 (Nat.le_refl _)), Lib.hid (SlB.bel HB1.out hb2 (Nat.le_refl _)), (by have := hb2.size; omega), Ext.bel XR.out hb2 hw0⟩
end
section
open Go.RowKit Go.ChangeShapes Go.WideShapes Go.Deep Go.Joins

theorem okk_wf {l : List (Int × Int × Int × Int × Bool × Bool)} (h : Okk l) : ∀ x ∈ l, (Lit.int .i64 x.1).wf = true := by
  intro x hx
  obtain ⟨j, hj⟩ := List.getElem?_of_mem hx
  obtain ⟨⟨a, b, _⟩, _⟩ := (okk_iff.1 h).2 j x hj
  simp [Lit.wf, IntKind.min, IntKind.max, IntKind.bits, IntKind.signed]
  omega
theorem okk_nil : Okk [] := by rfl
/-- what an act does, whichever -/
theorem does16_any (A : Option Addr) (c : Nat) (now : List (Int × Int × Int × Int × Bool × Bool)) (xK xI xH xC : Int) (w : World) (hs : Sl w 6 A now.length c (now.flatMap valC)) (hn : Okk now) (hnil : A = none → c = 0) (hK : Fits .i64 xK) (hI : Fits .i64 xI) (hH : Fits .i64 xH) (hC : Fits .i64 xC) :
    Calls Try.prog 85 #[.slice A now.length c, .agg #[.int .i64 xK, .int .i64 xI, .int .i64 xH, .int .i64 xC]] w (DoRet now (xK % 5) (xH % 1000) w) := by
  have hw := okk_wf hn
  have h32 := (okk_iff.1 hn).1
  have hh : xH % 1000 < 1000 := by omega
  have h5 : xK % 5 = 0 ∨ xK % 5 = 1 ∨ xK % 5 = 2 ∨ xK % 5 = 3 ∨ xK % 5 = 4 := by omega
  rcases h5 with h | h | h | h | h
  · rw [h]
    exact does16_cre A c now xK xI xH xC (xI % 8) (xH % 1000) (creV now (xI % 8) (xH % 1000)).2.2 (creV now (xI % 8) (xH % 1000)).2.1 (creV now (xI % 8) (xH % 1000)).1 w hs hw hnil hK hI hH hC h.symm rfl rfl rfl (does_cre hn)
  · rw [h]
    exact does16_cho A c now xK xI xH xC (xI % 8) (xH % 1000) 0 w hs hw hnil hK hI hH hC h.symm rfl rfl (fun act => does_cho hn) h32
  · rw [h]
    exact does16_jail A c now xK xI xH xC (xI % 8) (xH % 1000) (jailV now (xI % 8) (1 + xH % 1000)).2 (1 + xH % 1000) (jailV now (xI % 8) (1 + xH % 1000)).1 w hs hw hnil hK hI hH hC h.symm rfl rfl rfl rfl (does_jail hn (by omega))
  · rw [h]
    by_cases ho : xI % 8 < now.length
    · obtain ⟨k, hk⟩ : ∃ k : Nat, xI % 8 = (k : Int) := ⟨(xI % 8).toNat, by omega⟩
      have hkl : k < now.length := by omega
      obtain ⟨⟨x0, x1, x2, x3, x4, x5⟩, hx⟩ : ∃ x, x = now[k] := ⟨_, rfl⟩
      have hx2 : now[k]? = some (x0, x1, x2, x3, x4, x5) := by rw [hx]; exact List.getElem?_eq_getElem hkl
      obtain ⟨⟨a, b, _⟩, _⟩ := (okk_iff.1 hn).2 k _ hx2
      exact does16_unj A c now xK xI xH xC (xI % 8) (xH % 1000) (unjV now (xI % 8) (x0 + xC % 2) (xH % 1000)).2 k x0 x1 x2 x3 (xC % 2) (x0 + xC % 2) x4 x5 (unjV now (xI % 8) (x0 + xC % 2) (xH % 1000)).1 w hs hw hnil hK hI hH hC h.symm rfl rfl hk hx2 a b rfl rfl rfl (does_unj hn)
    · exact does16_unjo A c now xK xI xH xC (xI % 8) (xH % 1000) (unjV now (xI % 8) (xI % 8) (xH % 1000)).2 (unjV now (xI % 8) (xI % 8) (xH % 1000)).1 w hs hw hnil hK hI hH hC h.symm rfl rfl ho rfl (does_unj hn)
  · rw [h]
    exact does16_pun A c now xK xI xH xC (xI % 8) (xH % 1000) (punV now (xI % 8) (xC % 3) (1 + xH % 1000)).2 (1 + xH % 1000) (xC % 3) (punV now (xI % 8) (xC % 3) (1 + xH % 1000)).1 w hs hw hnil hK hI hH hC h.symm rfl rfl rfl rfl rfl (does_pun hn (by omega))
/-- acts that came in -/
theorem open_acts {H : Type} {enc : TypeId × Value → H} {w : World} {base : Nat} {spare : Nat → Bool} {held : Bool} {n c : Nat} {A : Option Addr} {d : DataW H} {p : List MemPlace}
    (h : DataW.Trod enc Try.prog w base spare held 90 (.slice A n c) d p) : ∃ l : List (Int × Int × Int × Int), n = l.length ∧ Sl w 4 A l.length c (l.flatMap actC) ∧ (∀ x ∈ l, Fits .i64 x.1 ∧ Fits .i64 x.2.1 ∧ Fits .i64 x.2.2.1 ∧ Fits .i64 x.2.2.2) ∧ (A = none → c = 0) := by
  obtain ⟨l, h1, h2, h3⟩ := open_rec (f := actC) (sz := 4) (Good := fun x => Fits .i64 x.1 ∧ Fits .i64 x.2.1 ∧ Fits .i64 x.2.2.1 ∧ Fits .i64 x.2.2.2) Try.underlying90 (by kernel_rfl) (by decide)
    (fun cs m y h hl => rec4 (k0 := .i64) (k1 := .i64) (k2 := .i64) (k3 := .i64) Try.underlying93 (by kernel_rfl) Try.underlying3 Try.underlying3 Try.underlying3 Try.underlying3 h hl) h
  subst h2
  exact ⟨l, rfl, h1, h3, none_cap Try.underlying90 h⟩
set_option maxRecDepth 100000 in
set_option maxHeartbeats 8000000 in
theorem RosterStays_long (A : Option Addr) (c : Nat) (l : List (Int × Int × Int × Int)) (w : World) (hs : Sl w 4 A l.length c (l.flatMap actC)) (hl : ¬ l.length ≤ 80) :
    Calls Try.prog 13 #[.slice A l.length c] w fun r w' => r = .returned (.bool true) ∧ Ext w w' := by
  have s1 := hs.small
  have hMd : (80 : Int) < (l.length : Int) := by omega
  clear hl hs
  go_enter Try.func13, Try.ntmps13
  go_wp2_with fail
  (with_reducible refine (RosterKnown_any _).mono ?_)
  rintro e w1 ⟨rfl, hx1⟩
  have z1 := hx1.size
  try simp at z1
  have X1 : Hid (Ext w w1) := Lib.hid (Ext.trans (by repeat (first | with_reducible exact Ext.refl w | with_reducible refine Ext.drew ?_ | with_reducible refine Ext.drewN ?_ _ | with_reducible refine Ext.alloc ?_ _ | with_reducible refine Ext.setCell ?_ (by first | omega | (simp; done) | (simp; omega)) _)) hx1)
  clear hx1 z1
  go_wp2_with fail
  go_ret
  exact ⟨rfl, (by repeat (first | with_reducible exact X1.out | with_reducible refine Ext.drew ?_ | with_reducible refine Ext.drewN ?_ _ | with_reducible refine Ext.alloc ?_ _ | with_reducible refine Ext.setCell ?_ (by first | omega | (simp; done) | (simp; omega)) _))⟩
set_option maxRecDepth 100000 in
set_option maxHeartbeats 8000000 in
theorem RosterStays_main (A : Option Addr) (c : Nat) (l : List (Int × Int × Int × Int)) (w : World) (hs : Sl w 4 A l.length c (l.flatMap actC)) (hf : ∀ x ∈ l, Fits .i64 x.1 ∧ Fits .i64 x.2.1 ∧ Fits .i64 x.2.2.1 ∧ Fits .i64 x.2.2.2) (hl : l.length ≤ 80) :
    Calls Try.prog 13 #[.slice A l.length c] w fun r w' => r = .returned (.bool true) ∧ Ext w w' := by
  have s1 := hs.small
  have hMd : ¬ (80 : Int) < (l.length : Int) := by omega
  have HA := Lib.hid hs
  have HFt := Lib.hid hf
  clear hs hf
  go_enter Try.func13, Try.ntmps13
  go_wp2_with fail
  (with_reducible refine (RosterKnown_any _).mono ?_)
  rintro e w1 ⟨rfl, hx1⟩
  have z1 := hx1.size
  try simp at z1
  replace HA := Lib.hid (HA.out.ext (Ext.trans (by repeat (first | with_reducible exact Ext.refl _ | with_reducible refine Ext.drew ?_ | with_reducible refine Ext.drewN ?_ _ | with_reducible refine Ext.alloc ?_ _ | with_reducible refine Ext.setCell ?_ (by first | omega | (simp; done) | (simp; omega)) _)) hx1))
  have X1 : Hid (Ext w w1) := Lib.hid (Ext.trans (by repeat (first | with_reducible exact Ext.refl w | with_reducible refine Ext.drew ?_ | with_reducible refine Ext.drewN ?_ _ | with_reducible refine Ext.alloc ?_ _ | with_reducible refine Ext.setCell ?_ (by first | omega | (simp; done) | (simp; omega)) _)) hx1)
  clear hx1 z1
  go_wp2_with fail
  go_loopg [4, 5] l.length (fun gh q i wx => gh ≤ l.length ∧ i = .int .i64 ((l.length - gh : Nat) : Int) ∧ (∃ (A1 : Option Addr) (c1 : Nat) (now : List (Int × Int × Int × Int × Bool × Bool)), q = .slice A1 now.length c1 ∧ Hid ((A1 = none → c1 = 0) ∧ Sl wx 6 A1 now.length c1 (now.flatMap valC) ∧ Okk now)) ∧ Hid (Sl wx 4 A l.length c (l.flatMap actC)) ∧ Ext w wx)
  case atStart => exact ⟨Nat.le_refl _, by simp, ⟨none, 0, [], rfl, Lib.hid ⟨fun _ => rfl, Sl.nil _ _, okk_nil⟩⟩, HA, X1.out⟩
  case round =>
    obtain ⟨hg, hi, ⟨A1, c1, now, rfl, hnow⟩, hA, hx⟩ := hrel
    obtain ⟨k, hk⟩ : ∃ k, k = l.length - gk := ⟨_, rfl⟩
    rw [← hk] at hi
    subst hi
    have XR := Lib.hid hx
    by_cases hz : gk = 0
    · have hkn : ¬ (k : Int) < l.length := by omega
      clear hx hk hg hz
      go_wp2
      go_ret
      exact ⟨rfl, XR.out⟩
    · have hkn : (k : Int) < l.length := by omega
      have hk1 : k < l.length := by omega
      obtain ⟨b1, o1, rfl, hb1, hc1⟩ := hA.out.rec_ actC_len (show 0 < l.length from by omega)
      obtain ⟨x, hxx⟩ : ∃ x, x = l[k] := ⟨_, rfl⟩
      have hlk : l[k]? = some x := by rw [hxx]; exact List.getElem?_eq_getElem hk1
      have x_0 := hc1 k x hlk 0 _ rfl
      have x_1 := hc1 k x hlk 1 _ rfl
      have x_2 := hc1 k x hlk 2 _ rfl
      have x_3 := hc1 k x hlk 3 _ rfl
      obtain ⟨f0, f1, f2, f3⟩ := HFt.out x (List.mem_of_getElem? hlk)
      obtain ⟨xK, xI, xH, xC⟩ := x
      simp only at x_0 x_1 x_2 x_3 f0 f1 f2 f3
      rw [Nat.add_zero] at x_0
      rw [← Nat.add_assoc] at x_1 x_2 x_3
      have h32 := (okk_iff.1 hnow.out.2.2).1
      have HN := hnow
      have HNS := Lib.hid hnow.out.2.1
      have HAk := hA
      have G0 := Lib.hid (And.intro f0 (And.intro f1 (And.intro f2 f3)))
      have HK := Lib.hid (And.intro hk (And.intro hg hz))
      have HLK := Lib.hid hlk
      obtain ⟨g1, hg1⟩ : ∃ g, g = gk := ⟨_, rfl⟩
      have HG1 := Lib.hid hg1
      clear hg1
      clear hx hk hg hz hc1 hxx hlk hnow hA f0 f1 f2 f3 hk1
      go_wp2_with fail
      (with_reducible refine (does16_any A1 c1 now xK xI xH xC _ (HNS.out.ext (by repeat (first | with_reducible exact Ext.refl _ | with_reducible refine Ext.drew ?_ | with_reducible refine Ext.drewN ?_ _ | with_reducible refine Ext.alloc ?_ _ | with_reducible refine Ext.setCell ?_ (by first | omega | (simp; done) | (simp; omega)) _))) HN.out.2.2 HN.out.1 G0.out.1 G0.out.2.1 G0.out.2.2.1 G0.out.2.2.2).mono ?_)
      rintro e w51 ⟨A2, c2, L, e, rfl, hN2, hL, hP, hx51⟩
      have z51 := hx51.size
      try simp at z51
      replace HAk := Lib.hid (HAk.out.ext (Ext.trans (by repeat (first | with_reducible exact Ext.refl _ | with_reducible refine Ext.drew ?_ | with_reducible refine Ext.drewN ?_ _ | with_reducible refine Ext.alloc ?_ _ | with_reducible refine Ext.setCell ?_ (by first | omega | (simp; done) | (simp; omega)) _)) hx51))
      replace HNS := Lib.hid (HNS.out.ext (Ext.trans (by repeat (first | with_reducible exact Ext.refl _ | with_reducible refine Ext.drew ?_ | with_reducible refine Ext.drewN ?_ _ | with_reducible refine Ext.alloc ?_ _ | with_reducible refine Ext.setCell ?_ (by first | omega | (simp; done) | (simp; omega)) _)) hx51))
      have X51 : Hid (Ext w w51) := Lib.hid (Ext.trans (by repeat (first | with_reducible exact XR.out | with_reducible refine Ext.drew ?_ | with_reducible refine Ext.drewN ?_ _ | with_reducible refine Ext.alloc ?_ _ | with_reducible refine Ext.setCell ?_ (by first | omega | (simp; done) | (simp; omega)) _)) hx51)
      have HL := Lib.hid hL
      clear x_0 x_1 x_3 x_2 XR hx51 z51 hL
      have HN2 := Lib.hid hN2
      have HP := Lib.hid hP
      obtain ⟨p1, p2, p3, p4⟩ := hP
      have HC0 : Hid (((0 : Int), (0 : Int)) = chkV L) := Lib.hid ((chkV_zero p1).1.symm)
      have HWL := Lib.hid (okk_wf p1)
      have p2i : decide (L.length < now.length) = false := decide_eq_false (by omega)
      have p2j : decide ((L.length : Int) < now.length) = false := decide_eq_false (by omega)
      have p3i : decide (now.length + 1 < L.length) = false := decide_eq_false (by omega)
      have p3j : decide ((now.length : Int) + 1 < L.length) = false := decide_eq_false (by omega)
      clear hN2 p1 p4
      go_wp2_with fail
      (with_reducible refine (rosCheck_ev A2 L.length c2 L 0 0 _ (HL.out.ext (by repeat (first | with_reducible exact Ext.refl _ | with_reducible refine Ext.drew ?_ | with_reducible refine Ext.drewN ?_ _ | with_reducible refine Ext.alloc ?_ _ | with_reducible refine Ext.setCell ?_ (by first | omega | (simp; done) | (simp; omega)) _))) HWL.out HC0.out).mono ?_)
      rintro e w52 ⟨rfl, hx52⟩
      have z52 := hx52.size
      try simp at z52
      replace HAk := Lib.hid (HAk.out.ext (Ext.trans (by repeat (first | with_reducible exact Ext.refl _ | with_reducible refine Ext.drew ?_ | with_reducible refine Ext.drewN ?_ _ | with_reducible refine Ext.alloc ?_ _ | with_reducible refine Ext.setCell ?_ (by first | omega | (simp; done) | (simp; omega)) _)) hx52))
      replace HNS := Lib.hid (HNS.out.ext (Ext.trans (by repeat (first | with_reducible exact Ext.refl _ | with_reducible refine Ext.drew ?_ | with_reducible refine Ext.drewN ?_ _ | with_reducible refine Ext.alloc ?_ _ | with_reducible refine Ext.setCell ?_ (by first | omega | (simp; done) | (simp; omega)) _)) hx52))
      replace HL := Lib.hid (HL.out.ext (Ext.trans (by repeat (first | with_reducible exact Ext.refl _ | with_reducible refine Ext.drew ?_ | with_reducible refine Ext.drewN ?_ _ | with_reducible refine Ext.alloc ?_ _ | with_reducible refine Ext.setCell ?_ (by first | omega | (simp; done) | (simp; omega)) _)) hx52))
      have X52 : Hid (Ext w w52) := Lib.hid (Ext.trans (by repeat (first | with_reducible exact X51.out | with_reducible refine Ext.drew ?_ | with_reducible refine Ext.drewN ?_ _ | with_reducible refine Ext.alloc ?_ _ | with_reducible refine Ext.setCell ?_ (by first | omega | (simp; done) | (simp; omega)) _)) hx52)
      clear X51 hx52 z52
      go_wp2_with fail
      clear p2 p3 p2i p2j p3i p3j
      go_loopg [10] now.length (fun gh i wx => gh ≤ now.length ∧ i = .int .i64 ((now.length - gh : Nat) : Int) ∧ Hid (Sl wx 6 A1 now.length c1 (now.flatMap valC)) ∧ Hid (Sl wx 6 A2 L.length c2 (L.flatMap valC)) ∧ Hid (Sl wx 4 (some ⟨b1, o1, none⟩) l.length c (l.flatMap actC)) ∧ Ext w wx)
      case atStart => exact ⟨Nat.le_refl _, by simp, HNS, HL, HAk, X52.out⟩
      case round =>
        obtain ⟨hg2, hi2, hS2, hL2, hA2, hx2⟩ := hrel
        obtain ⟨j, hj⟩ : ∃ j, j = now.length - gk := ⟨_, rfl⟩
        rw [← hj] at hi2
        subst hi2
        have XS := Lib.hid hx2
        by_cases hz2 : gk = 0
        · have hjn : ¬ (j : Int) < now.length := by omega
          have HS2 := hS2
          clear hx2 hj hg2 hz2 hS2
          go_wp2_with fail
          go_roundg (g1 - 1)
          case measure => have := HK.out; have := HG1.out; omega
          case rel => exact ⟨by have := HK.out; have := HG1.out; omega, num_eq (by have := HK.out; have := HG1.out; omega), ⟨A2, c2, L, rfl, Lib.hid ⟨HN2.out, hL2.out, HP.out.1⟩⟩, hA2, XS.out⟩
        · have hjn : (j : Int) < now.length := by omega
          have hj1 : j < now.length := by omega
          have hj2 : j < L.length := by have := HP.out.2.1; omega
          have hjL : (j : Int) < L.length := by omega
          obtain ⟨b3, o3, rfl, hb3, hc3⟩ := hS2.out.rec_ valC_len (show 0 < now.length from by omega)
          obtain ⟨b4, o4, rfl, hb4, hc4⟩ := hL2.out.rec_ valC_len (show 0 < L.length from by omega)
          obtain ⟨y, hyy⟩ : ∃ x, x = now[j] := ⟨_, rfl⟩
          have hly : now[j]? = some y := by rw [hyy]; exact List.getElem?_eq_getElem hj1
          obtain ⟨z, hzz⟩ : ∃ x, x = L[j] := ⟨_, rfl⟩
          have hlz : L[j]? = some z := by rw [hzz]; exact List.getElem?_eq_getElem hj2
          obtain ⟨b5, o5, hb5e, hb5, hc5⟩ := hA2.out.rec_ actC_len (show 0 < l.length from by omega)
          injection hb5e with hb5e
          injection hb5e with hb5a hb5b
          subst hb5a; subst hb5b
          have y_0 := hc3 j y hly 0 _ rfl
          have z_0 := hc4 j z hlz 0 _ rfl
          have y_1 := hc3 j y hly 1 _ rfl
          have z_1 := hc4 j z hlz 1 _ rfl
          have y_2 := hc3 j y hly 2 _ rfl
          have z_2 := hc4 j z hlz 2 _ rfl
          have y_3 := hc3 j y hly 3 _ rfl
          have z_3 := hc4 j z hlz 3 _ rfl
          have y_4 := hc3 j y hly 4 _ rfl
          have z_4 := hc4 j z hlz 4 _ rfl
          have y_5 := hc3 j y hly 5 _ rfl
          have z_5 := hc4 j z hlz 5 _ rfl
          have v_0 := hc5 k _ HLK.out 0 _ rfl
          have v_1 := hc5 k _ HLK.out 1 _ rfl
          have v_2 := hc5 k _ HLK.out 2 _ rfl
          have v_3 := hc5 k _ HLK.out 3 _ rfl
          have hst : e = 0 → Steps y z (xK % 5) (xH % 1000) := fun he => HP.out.2.2.2 he j y z hly hlz
          obtain ⟨y0, y1, y2, y3, y4, y5⟩ := y
          obtain ⟨z0, z1, z2, z3, z4, z5⟩ := z
          simp only at y_0 y_1 y_2 y_3 y_4 y_5 z_0 z_1 z_2 z_3 z_4 z_5 v_0 v_1 v_2 v_3
          rw [Nat.add_zero] at y_0 z_0 v_0
          rw [← Nat.add_assoc] at y_1 y_2 y_3 y_4 y_5 z_1 z_2 z_3 z_4 z_5 v_1 v_2 v_3
          have HST := Lib.hid hst
          have HJ := Lib.hid (And.intro hj (And.intro hg2 hz2))
          have HS2 := hS2
          have HL2 := hL2
          have HA2 := hA2
          clear hx2 hj hg2 hz2 hS2 hL2 hA2 hc3 hc4 hc5 hyy hly hzz hlz hst hj1 hj2
          by_cases he : e = 0
          · have e60 : (e == 0) = true := by simpa using he
            have HE := Lib.hid he
            clear he
            go_wp2_with fail
            refine wp_region_held_drew (S := fun w' => w'.cell? ⟨b1, o1 + k * 4, none⟩ = some (.int .i64 xK) ∧ w'.cell? ⟨b1, o1 + k * 4 + 1, none⟩ = some (.int .i64 xI) ∧ w'.cell? ⟨b1, o1 + k * 4 + 2, none⟩ = some (.int .i64 xH) ∧ w'.cell? ⟨b1, o1 + k * 4 + 3, none⟩ = some (.int .i64 xC) ∧ w'.cell? ⟨b3, o3 + j * 6, none⟩ = some (.int .i64 y0) ∧ w'.cell? ⟨b3, o3 + j * 6 + 1, none⟩ = some (.int .u64 y1) ∧ w'.cell? ⟨b3, o3 + j * 6 + 2, none⟩ = some (.int .i64 y2) ∧ w'.cell? ⟨b3, o3 + j * 6 + 3, none⟩ = some (.int .i64 y3) ∧ w'.cell? ⟨b3, o3 + j * 6 + 4, none⟩ = some (.bool y4) ∧ w'.cell? ⟨b3, o3 + j * 6 + 5, none⟩ = some (.bool y5) ∧ w'.cell? ⟨b4, o4 + j * 6, none⟩ = some (.int .i64 z0) ∧ w'.cell? ⟨b4, o4 + j * 6 + 1, none⟩ = some (.int .u64 z1) ∧ w'.cell? ⟨b4, o4 + j * 6 + 2, none⟩ = some (.int .i64 z2) ∧ w'.cell? ⟨b4, o4 + j * 6 + 3, none⟩ = some (.int .i64 z3) ∧ w'.cell? ⟨b4, o4 + j * 6 + 4, none⟩ = some (.bool z4) ∧ w'.cell? ⟨b4, o4 + j * 6 + 5, none⟩ = some (.bool z5)) (by kernel_rfl) (by first | exact ⟨v_0, v_1, v_2, v_3, y_0, y_1, y_2, y_3, y_4, y_5, z_0, z_1, z_2, z_3, z_4, z_5⟩ | (simp [go_sem, World.cell?_alloc_past, y_0, y_1, y_2, y_3, y_4, y_5, z_0, z_1, z_2, z_3, z_4, z_5, v_0, v_1, v_2, v_3]; done)) (fun hHeld => ?_)
            (refine' take_in 0 rfl (by kernel_rfl) (by kernel_rfl) (by kernel_rfl) (fun _ _ _ h => h) (by rfl) (by assumption) ?_ ?_; rotate_left; focus (intro w hSw; (try dsimp only at hSw); go_simp; try with_reducible rfl)); try simp only [Act.put, List.setIfInBounds_toArray, List.set_cons_zero, List.set_cons_succ]
            (refine' take_in 1 rfl (by kernel_rfl) (by kernel_rfl) (by kernel_rfl) (fun _ _ _ h => h) (by rfl) (by assumption) ?_ ?_; rotate_left; focus (intro w hSw; (try dsimp only at hSw); go_simp; try with_reducible rfl)); try simp only [Act.put, List.setIfInBounds_toArray, List.set_cons_zero, List.set_cons_succ]
            (refine' take_in 2 rfl (by kernel_rfl) (by kernel_rfl) (by kernel_rfl) (fun _ _ _ h => h) (by rfl) (by assumption) ?_ ?_; rotate_left; focus (intro w hSw; (try dsimp only at hSw); go_simp; try with_reducible rfl)); try simp only [Act.put, List.setIfInBounds_toArray, List.set_cons_zero, List.set_cons_succ]
            (refine' take_in 3 rfl (by kernel_rfl) (by kernel_rfl) (by kernel_rfl) (fun _ _ _ h => h) (by rfl) (by assumption) ?_ ?_; rotate_left; focus (intro w hSw; (try dsimp only at hSw); go_simp; try with_reducible rfl)); try simp only [Act.put, List.setIfInBounds_toArray, List.set_cons_zero, List.set_cons_succ]
            (refine' take_in 4 rfl (by kernel_rfl) (by kernel_rfl) (by kernel_rfl) (fun _ _ _ h => h) (by rfl) (by assumption) ?_ ?_; rotate_left; focus (intro w hSw; (try dsimp only at hSw); go_simp; try with_reducible rfl)); try simp only [Act.put, List.setIfInBounds_toArray, List.set_cons_zero, List.set_cons_succ]
            (refine' take_in 5 rfl (by kernel_rfl) (by kernel_rfl) (by kernel_rfl) (fun _ _ _ h => h) (by rfl) (by assumption) ?_ ?_; rotate_left; focus (intro w hSw; (try dsimp only at hSw); go_simp; try with_reducible rfl)); try simp only [Act.put, List.setIfInBounds_toArray, List.set_cons_zero, List.set_cons_succ]
            (refine' take_in 6 rfl (by kernel_rfl) (by kernel_rfl) (by kernel_rfl) (fun _ _ _ h => h) (by rfl) (by assumption) ?_ ?_; rotate_left; focus (intro w hSw; (try dsimp only at hSw); go_simp; try with_reducible rfl)); try simp only [Act.put, List.setIfInBounds_toArray, List.set_cons_zero, List.set_cons_succ]
            (refine' take_in 7 rfl (by kernel_rfl) (by kernel_rfl) (by kernel_rfl) (fun _ _ _ h => h) (by rfl) (by assumption) ?_ ?_; rotate_left; focus (intro w hSw; (try dsimp only at hSw); go_simp; try with_reducible rfl)); try simp only [Act.put, List.setIfInBounds_toArray, List.set_cons_zero, List.set_cons_succ]
            (refine' take_in 8 rfl (by kernel_rfl) (by kernel_rfl) (by kernel_rfl) (fun _ _ _ h => h) (by rfl) (by assumption) ?_ ?_; rotate_left; focus (intro w hSw; (try dsimp only at hSw); go_simp; try with_reducible rfl)); try simp only [Act.put, List.setIfInBounds_toArray, List.set_cons_zero, List.set_cons_succ]
            (refine' take_in 9 rfl (by kernel_rfl) (by kernel_rfl) (by kernel_rfl) (fun _ _ _ h => h) (by rfl) (by assumption) ?_ ?_; rotate_left; focus (intro w hSw; (try dsimp only at hSw); go_simp; try with_reducible rfl)); try simp only [Act.put, List.setIfInBounds_toArray, List.set_cons_zero, List.set_cons_succ]
            (refine' take_in 10 rfl (by kernel_rfl) (by kernel_rfl) (by kernel_rfl) (fun _ _ _ h => h) (by rfl) (by assumption) ?_ ?_; rotate_left; focus (intro w hSw; (try dsimp only at hSw); go_simp; try with_reducible rfl)); try simp only [Act.put, List.setIfInBounds_toArray, List.set_cons_zero, List.set_cons_succ]
            (refine' take_in 11 rfl (by kernel_rfl) (by kernel_rfl) (by kernel_rfl) (fun _ _ _ h => h) (by rfl) (by assumption) ?_ ?_; rotate_left; focus (intro w hSw; (try dsimp only at hSw); go_simp; try with_reducible rfl)); try simp only [Act.put, List.setIfInBounds_toArray, List.set_cons_zero, List.set_cons_succ]
            (refine' take_in 12 rfl (by kernel_rfl) (by kernel_rfl) (by kernel_rfl) (fun _ _ _ h => h) (by rfl) (by assumption) ?_ ?_; rotate_left; focus (intro w hSw; (try dsimp only at hSw); go_simp; try with_reducible rfl)); try simp only [Act.put, List.setIfInBounds_toArray, List.set_cons_zero, List.set_cons_succ]
            (refine' take_in 13 rfl (by kernel_rfl) (by kernel_rfl) (by kernel_rfl) (fun _ _ _ h => h) (by rfl) (by assumption) ?_ ?_; rotate_left; focus (intro w hSw; (try dsimp only at hSw); go_simp; try with_reducible rfl)); try simp only [Act.put, List.setIfInBounds_toArray, List.set_cons_zero, List.set_cons_succ]
            (refine' take_in 14 rfl (by kernel_rfl) (by kernel_rfl) (by kernel_rfl) (fun _ _ _ h => h) (by rfl) (by assumption) ?_ ?_; rotate_left; focus (intro w hSw; (try dsimp only at hSw); go_simp; try with_reducible rfl)); try simp only [Act.put, List.setIfInBounds_toArray, List.set_cons_zero, List.set_cons_succ]
            refine' next_in 15 rfl (by kernel_rfl) (by rfl) (fun K hK => ?_)
            go_simp
            (with_reducible refine (steps16_any (y0, y1, y2, y3, y4, y5) (z0, z1, z2, z3, z4, z5) xK xI xH xC (xK % 5) (xH % 1000) G0.out.1 G0.out.2.2.1 rfl rfl (HST.out HE.out) _).mono ?_)
            rintro e w71 ⟨rfl, hx71⟩
            replace y_0 : w71.cell? ⟨b3, o3 + j * 6, none⟩ = some (.int .i64 y0) := hx71.has (by first | exact y_0 | (simp [go_sem, World.cell?_alloc_past, y_0, y_1, y_2, y_3, y_4, y_5, z_0, z_1, z_2, z_3, z_4, z_5, v_0, v_1, v_2, v_3]; done))
            replace y_1 : w71.cell? ⟨b3, o3 + j * 6 + 1, none⟩ = some (.int .u64 y1) := hx71.has (by first | exact y_1 | (simp [go_sem, World.cell?_alloc_past, y_0, y_1, y_2, y_3, y_4, y_5, z_0, z_1, z_2, z_3, z_4, z_5, v_0, v_1, v_2, v_3]; done))
            replace y_2 : w71.cell? ⟨b3, o3 + j * 6 + 2, none⟩ = some (.int .i64 y2) := hx71.has (by first | exact y_2 | (simp [go_sem, World.cell?_alloc_past, y_0, y_1, y_2, y_3, y_4, y_5, z_0, z_1, z_2, z_3, z_4, z_5, v_0, v_1, v_2, v_3]; done))
            replace y_3 : w71.cell? ⟨b3, o3 + j * 6 + 3, none⟩ = some (.int .i64 y3) := hx71.has (by first | exact y_3 | (simp [go_sem, World.cell?_alloc_past, y_0, y_1, y_2, y_3, y_4, y_5, z_0, z_1, z_2, z_3, z_4, z_5, v_0, v_1, v_2, v_3]; done))
            replace y_4 : w71.cell? ⟨b3, o3 + j * 6 + 4, none⟩ = some (.bool y4) := hx71.has (by first | exact y_4 | (simp [go_sem, World.cell?_alloc_past, y_0, y_1, y_2, y_3, y_4, y_5, z_0, z_1, z_2, z_3, z_4, z_5, v_0, v_1, v_2, v_3]; done))
            replace y_5 : w71.cell? ⟨b3, o3 + j * 6 + 5, none⟩ = some (.bool y5) := hx71.has (by first | exact y_5 | (simp [go_sem, World.cell?_alloc_past, y_0, y_1, y_2, y_3, y_4, y_5, z_0, z_1, z_2, z_3, z_4, z_5, v_0, v_1, v_2, v_3]; done))
            replace z_0 : w71.cell? ⟨b4, o4 + j * 6, none⟩ = some (.int .i64 z0) := hx71.has (by first | exact z_0 | (simp [go_sem, World.cell?_alloc_past, y_0, y_1, y_2, y_3, y_4, y_5, z_0, z_1, z_2, z_3, z_4, z_5, v_0, v_1, v_2, v_3]; done))
            replace z_1 : w71.cell? ⟨b4, o4 + j * 6 + 1, none⟩ = some (.int .u64 z1) := hx71.has (by first | exact z_1 | (simp [go_sem, World.cell?_alloc_past, y_0, y_1, y_2, y_3, y_4, y_5, z_0, z_1, z_2, z_3, z_4, z_5, v_0, v_1, v_2, v_3]; done))
            replace z_2 : w71.cell? ⟨b4, o4 + j * 6 + 2, none⟩ = some (.int .i64 z2) := hx71.has (by first | exact z_2 | (simp [go_sem, World.cell?_alloc_past, y_0, y_1, y_2, y_3, y_4, y_5, z_0, z_1, z_2, z_3, z_4, z_5, v_0, v_1, v_2, v_3]; done))
            replace z_3 : w71.cell? ⟨b4, o4 + j * 6 + 3, none⟩ = some (.int .i64 z3) := hx71.has (by first | exact z_3 | (simp [go_sem, World.cell?_alloc_past, y_0, y_1, y_2, y_3, y_4, y_5, z_0, z_1, z_2, z_3, z_4, z_5, v_0, v_1, v_2, v_3]; done))
            replace z_4 : w71.cell? ⟨b4, o4 + j * 6 + 4, none⟩ = some (.bool z4) := hx71.has (by first | exact z_4 | (simp [go_sem, World.cell?_alloc_past, y_0, y_1, y_2, y_3, y_4, y_5, z_0, z_1, z_2, z_3, z_4, z_5, v_0, v_1, v_2, v_3]; done))
            replace z_5 : w71.cell? ⟨b4, o4 + j * 6 + 5, none⟩ = some (.bool z5) := hx71.has (by first | exact z_5 | (simp [go_sem, World.cell?_alloc_past, y_0, y_1, y_2, y_3, y_4, y_5, z_0, z_1, z_2, z_3, z_4, z_5, v_0, v_1, v_2, v_3]; done))
            replace v_0 : w71.cell? ⟨b1, o1 + k * 4, none⟩ = some (.int .i64 xK) := hx71.has (by first | exact v_0 | (simp [go_sem, World.cell?_alloc_past, y_0, y_1, y_2, y_3, y_4, y_5, z_0, z_1, z_2, z_3, z_4, z_5, v_0, v_1, v_2, v_3]; done))
            replace v_1 : w71.cell? ⟨b1, o1 + k * 4 + 1, none⟩ = some (.int .i64 xI) := hx71.has (by first | exact v_1 | (simp [go_sem, World.cell?_alloc_past, y_0, y_1, y_2, y_3, y_4, y_5, z_0, z_1, z_2, z_3, z_4, z_5, v_0, v_1, v_2, v_3]; done))
            replace v_2 : w71.cell? ⟨b1, o1 + k * 4 + 2, none⟩ = some (.int .i64 xH) := hx71.has (by first | exact v_2 | (simp [go_sem, World.cell?_alloc_past, y_0, y_1, y_2, y_3, y_4, y_5, z_0, z_1, z_2, z_3, z_4, z_5, v_0, v_1, v_2, v_3]; done))
            replace v_3 : w71.cell? ⟨b1, o1 + k * 4 + 3, none⟩ = some (.int .i64 xC) := hx71.has (by first | exact v_3 | (simp [go_sem, World.cell?_alloc_past, y_0, y_1, y_2, y_3, y_4, y_5, z_0, z_1, z_2, z_3, z_4, z_5, v_0, v_1, v_2, v_3]; done))
            have z71 := hx71.size
            try simp at z71
            have ry : b3 < w71.heap.size := by omega
            have rya : b3 < w71.heap.size + 1 := by omega
            have ryb : b3 < w71.heap.size + 1 + 1 := by omega
            have ryc : b3 < w71.heap.size + 1 + 1 + 1 := by omega
            have ryn : ¬ b3 = w71.heap.size := by omega
            have rz : b4 < w71.heap.size := by omega
            have rza : b4 < w71.heap.size + 1 := by omega
            have rzb : b4 < w71.heap.size + 1 + 1 := by omega
            have rzc : b4 < w71.heap.size + 1 + 1 + 1 := by omega
            have rzn : ¬ b4 = w71.heap.size := by omega
            have rv : b1 < w71.heap.size := by omega
            have rva : b1 < w71.heap.size + 1 := by omega
            have rvb : b1 < w71.heap.size + 1 + 1 := by omega
            have rvc : b1 < w71.heap.size + 1 + 1 + 1 := by omega
            have rvn : ¬ b1 = w71.heap.size := by omega
            replace HS2 := Lib.hid (HS2.out.ext (Ext.trans (by repeat (first | with_reducible exact Ext.refl _ | with_reducible refine Ext.drew ?_ | with_reducible refine Ext.drewN ?_ _ | with_reducible refine Ext.alloc ?_ _ | with_reducible refine Ext.setCell ?_ (by first | omega | (simp; done) | (simp; omega)) _)) hx71))
            replace HL2 := Lib.hid (HL2.out.ext (Ext.trans (by repeat (first | with_reducible exact Ext.refl _ | with_reducible refine Ext.drew ?_ | with_reducible refine Ext.drewN ?_ _ | with_reducible refine Ext.alloc ?_ _ | with_reducible refine Ext.setCell ?_ (by first | omega | (simp; done) | (simp; omega)) _)) hx71))
            replace HA2 := Lib.hid (HA2.out.ext (Ext.trans (by repeat (first | with_reducible exact Ext.refl _ | with_reducible refine Ext.drew ?_ | with_reducible refine Ext.drewN ?_ _ | with_reducible refine Ext.alloc ?_ _ | with_reducible refine Ext.setCell ?_ (by first | omega | (simp; done) | (simp; omega)) _)) hx71))
            have X71 : Hid (Ext w w71) := Lib.hid (Ext.trans (by repeat (first | with_reducible exact XS.out | with_reducible refine Ext.drew ?_ | with_reducible refine Ext.drewN ?_ _ | with_reducible refine Ext.alloc ?_ _ | with_reducible refine Ext.setCell ?_ (by first | omega | (simp; done) | (simp; omega)) _)) hx71)
            clear XS hx71 z71
            refine hK.out _ _ (by (first | exact ⟨v_0, v_1, v_2, v_3, y_0, y_1, y_2, y_3, y_4, y_5, z_0, z_1, z_2, z_3, z_4, z_5⟩ | (simp [go_sem, World.cell?_alloc_past, y_0, y_1, y_2, y_3, y_4, y_5, z_0, z_1, z_2, z_3, z_4, z_5, v_0, v_1, v_2, v_3, ry, rya, ryb, ryc, ryn, rz, rza, rzb, rzc, rzn, rv, rva, rvb, rvc, rvn]; done))) (fun hHeld => ?_); clear hK K; try simp only [Act.put, List.setIfInBounds_toArray, List.set_cons_zero, List.set_cons_succ]
            (refine' take_in 16 rfl (by kernel_rfl) (by kernel_rfl) (by kernel_rfl) (fun _ _ _ h => h) (by rfl) (by assumption) ?_ ?_; rotate_left; focus (intro w hSw; (try dsimp only at hSw); go_simp; try with_reducible rfl)); try simp only [Act.put, List.setIfInBounds_toArray, List.set_cons_zero, List.set_cons_succ]
            (refine' take_in 17 rfl (by kernel_rfl) (by kernel_rfl) (by kernel_rfl) (fun _ _ _ h => h) (by rfl) (by assumption) ?_ ?_; rotate_left; focus (intro w hSw; (try dsimp only at hSw); go_simp; try with_reducible rfl)); try simp only [Act.put, List.setIfInBounds_toArray, List.set_cons_zero, List.set_cons_succ]
            refine wpAnyH_done (by kernel_rfl) ?_ _
            go_wp2_with fail
            go_roundg (gk - 1)
            case measure => have := HJ.out; omega
            case rel => exact ⟨by have := HJ.out; omega, num_eq (by have := HJ.out; omega), Lib.hid (HS2.out.ext (by repeat (first | with_reducible exact Ext.refl _ | with_reducible refine Ext.drew ?_ | with_reducible refine Ext.drewN ?_ _ | with_reducible refine Ext.alloc ?_ _ | with_reducible refine Ext.setCell ?_ (by first | omega | (simp; done) | (simp; omega)) _))), Lib.hid (HL2.out.ext (by repeat (first | with_reducible exact Ext.refl _ | with_reducible refine Ext.drew ?_ | with_reducible refine Ext.drewN ?_ _ | with_reducible refine Ext.alloc ?_ _ | with_reducible refine Ext.setCell ?_ (by first | omega | (simp; done) | (simp; omega)) _))), Lib.hid (HA2.out.ext (by repeat (first | with_reducible exact Ext.refl _ | with_reducible refine Ext.drew ?_ | with_reducible refine Ext.drewN ?_ _ | with_reducible refine Ext.alloc ?_ _ | with_reducible refine Ext.setCell ?_ (by first | omega | (simp; done) | (simp; omega)) _))), (by repeat (first | with_reducible exact X71.out | with_reducible refine Ext.drew ?_ | with_reducible refine Ext.drewN ?_ _ | with_reducible refine Ext.alloc ?_ _ | with_reducible refine Ext.setCell ?_ (by first | omega | (simp; done) | (simp; omega)) _))⟩
          · have e60 : (e == 0) = false := by simpa using he
            clear he
            go_wp2_with fail
            refine wp_region_held_drew (S := fun w' => True) (by kernel_rfl) (by first | exact trivial | (simp [go_sem, World.cell?_alloc_past, y_0, y_1, y_2, y_3, y_4, y_5, z_0, z_1, z_2, z_3, z_4, z_5, v_0, v_1, v_2, v_3]; done)) (fun hHeld => ?_)
            (refine' take_in 0 rfl (by kernel_rfl) (by kernel_rfl) (by kernel_rfl) (fun _ _ _ h => h) (by rfl) (by assumption) ?_ ?_; rotate_left; focus (intro w hSw; (try dsimp only at hSw); go_simp; try with_reducible rfl)); try simp only [Act.put, List.setIfInBounds_toArray, List.set_cons_zero, List.set_cons_succ]
            (refine' take_in 1 rfl (by kernel_rfl) (by kernel_rfl) (by kernel_rfl) (fun _ _ _ h => h) (by rfl) (by assumption) ?_ ?_; rotate_left; focus (intro w hSw; (try dsimp only at hSw); go_simp; try with_reducible rfl)); try simp only [Act.put, List.setIfInBounds_toArray, List.set_cons_zero, List.set_cons_succ]
            (refine' take_in 2 rfl (by kernel_rfl) (by kernel_rfl) (by kernel_rfl) (fun _ _ _ h => h) (by rfl) (by assumption) ?_ ?_; rotate_left; focus (intro w hSw; (try dsimp only at hSw); go_simp; try with_reducible rfl)); try simp only [Act.put, List.setIfInBounds_toArray, List.set_cons_zero, List.set_cons_succ]
            (refine' skip_in 3 rfl (by kernel_rfl) (by kernel_rfl) (by kernel_rfl) (fun _ _ _ h => h) (by rfl) (by assumption) ?_); try simp only [Act.put, List.setIfInBounds_toArray, List.set_cons_zero, List.set_cons_succ]
            (refine' skip_in 4 rfl (by kernel_rfl) (by kernel_rfl) (by kernel_rfl) (fun _ _ _ h => h) (by rfl) (by assumption) ?_); try simp only [Act.put, List.setIfInBounds_toArray, List.set_cons_zero, List.set_cons_succ]
            (refine' skip_in 5 rfl (by kernel_rfl) (by kernel_rfl) (by kernel_rfl) (fun _ _ _ h => h) (by rfl) (by assumption) ?_); try simp only [Act.put, List.setIfInBounds_toArray, List.set_cons_zero, List.set_cons_succ]
            (refine' skip_in 6 rfl (by kernel_rfl) (by kernel_rfl) (by kernel_rfl) (fun _ _ _ h => h) (by rfl) (by assumption) ?_); try simp only [Act.put, List.setIfInBounds_toArray, List.set_cons_zero, List.set_cons_succ]
            (refine' skip_in 7 rfl (by kernel_rfl) (by kernel_rfl) (by kernel_rfl) (fun _ _ _ h => h) (by rfl) (by assumption) ?_); try simp only [Act.put, List.setIfInBounds_toArray, List.set_cons_zero, List.set_cons_succ]
            (refine' skip_in 8 rfl (by kernel_rfl) (by kernel_rfl) (by kernel_rfl) (fun _ _ _ h => h) (by rfl) (by assumption) ?_); try simp only [Act.put, List.setIfInBounds_toArray, List.set_cons_zero, List.set_cons_succ]
            (refine' skip_in 9 rfl (by kernel_rfl) (by kernel_rfl) (by kernel_rfl) (fun _ _ _ h => h) (by rfl) (by assumption) ?_); try simp only [Act.put, List.setIfInBounds_toArray, List.set_cons_zero, List.set_cons_succ]
            (refine' skip_in 10 rfl (by kernel_rfl) (by kernel_rfl) (by kernel_rfl) (fun _ _ _ h => h) (by rfl) (by assumption) ?_); try simp only [Act.put, List.setIfInBounds_toArray, List.set_cons_zero, List.set_cons_succ]
            (refine' skip_in 11 rfl (by kernel_rfl) (by kernel_rfl) (by kernel_rfl) (fun _ _ _ h => h) (by rfl) (by assumption) ?_); try simp only [Act.put, List.setIfInBounds_toArray, List.set_cons_zero, List.set_cons_succ]
            (refine' skip_in 12 rfl (by kernel_rfl) (by kernel_rfl) (by kernel_rfl) (fun _ _ _ h => h) (by rfl) (by assumption) ?_); try simp only [Act.put, List.setIfInBounds_toArray, List.set_cons_zero, List.set_cons_succ]
            (refine' skip_in 13 rfl (by kernel_rfl) (by kernel_rfl) (by kernel_rfl) (fun _ _ _ h => h) (by rfl) (by assumption) ?_); try simp only [Act.put, List.setIfInBounds_toArray, List.set_cons_zero, List.set_cons_succ]
            (refine' skip_in 14 rfl (by kernel_rfl) (by kernel_rfl) (by kernel_rfl) (fun _ _ _ h => h) (by rfl) (by assumption) ?_); try simp only [Act.put, List.setIfInBounds_toArray, List.set_cons_zero, List.set_cons_succ]
            (refine' skip_in 15 rfl (by kernel_rfl) (by kernel_rfl) (by kernel_rfl) (fun _ _ _ h => h) (by rfl) (by assumption) ?_); try simp only [Act.put, List.setIfInBounds_toArray, List.set_cons_zero, List.set_cons_succ]
            (refine' skip_in 16 rfl (by kernel_rfl) (by kernel_rfl) (by kernel_rfl) (fun _ _ _ h => h) (by rfl) (by assumption) ?_); try simp only [Act.put, List.setIfInBounds_toArray, List.set_cons_zero, List.set_cons_succ]
            (refine' take_in 17 rfl (by kernel_rfl) (by kernel_rfl) (by kernel_rfl) (fun _ _ _ h => h) (by rfl) (by assumption) ?_ ?_; rotate_left; focus (intro w hSw; (try dsimp only at hSw); go_simp; try with_reducible rfl)); try simp only [Act.put, List.setIfInBounds_toArray, List.set_cons_zero, List.set_cons_succ]
            refine wpAnyH_done (by kernel_rfl) ?_ _
            go_wp2_with fail
            go_roundg (gk - 1)
            case measure => have := HJ.out; omega
            case rel => exact ⟨by have := HJ.out; omega, num_eq (by have := HJ.out; omega), Lib.hid (HS2.out.ext (by repeat (first | with_reducible exact Ext.refl _ | with_reducible refine Ext.drew ?_ | with_reducible refine Ext.drewN ?_ _ | with_reducible refine Ext.alloc ?_ _ | with_reducible refine Ext.setCell ?_ (by first | omega | (simp; done) | (simp; omega)) _))), Lib.hid (HL2.out.ext (by repeat (first | with_reducible exact Ext.refl _ | with_reducible refine Ext.drew ?_ | with_reducible refine Ext.drewN ?_ _ | with_reducible refine Ext.alloc ?_ _ | with_reducible refine Ext.setCell ?_ (by first | omega | (simp; done) | (simp; omega)) _))), Lib.hid (HA2.out.ext (by repeat (first | with_reducible exact Ext.refl _ | with_reducible refine Ext.drew ?_ | with_reducible refine Ext.drewN ?_ _ | with_reducible refine Ext.alloc ?_ _ | with_reducible refine Ext.setCell ?_ (by first | omega | (simp; done) | (simp; omega)) _))), (by repeat (first | with_reducible exact XS.out | with_reducible refine Ext.drew ?_ | with_reducible refine Ext.drewN ?_ _ | with_reducible refine Ext.alloc ?_ _ | with_reducible refine Ext.setCell ?_ (by first | omega | (simp; done) | (simp; omega)) _))⟩
theorem RosterStays_any (A : Option Addr) (c : Nat) (l : List (Int × Int × Int × Int)) (w : World) (hs : Sl w 4 A l.length c (l.flatMap actC)) (hf : ∀ x ∈ l, Fits .i64 x.1 ∧ Fits .i64 x.2.1 ∧ Fits .i64 x.2.2.1 ∧ Fits .i64 x.2.2.2) (hnil : A = none → c = 0) :
    Calls Try.prog 13 #[.slice A l.length c] w fun r w' => r = .returned (.bool true) ∧ Ext w w' := by
  by_cases hl : l.length ≤ 80
  · exact RosterStays_main A c l w hs hf hl
  · exact RosterStays_long A c l w hs hl
end
end Go.Proofs.Ytjdpgapmdmpjjaa
