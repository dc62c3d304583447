/- roster: what a status lets, who is found, what is refused. Conditions stand in each lemma. -/
import Derived.Test.YtjdpgapmdmpjjaaListVal
set_option linter.unusedVariables false
set_option linter.unusedSimpArgs false
namespace Go.Proofs.Ytjdpgapmdmpjjaa
open Go.RowKit Go.ChangeShapes Go.WideShapes Go.Deep Go.Joins

set_option maxRecDepth 100000 in
theorem rosLets_any (st : Int) (w : World) : Calls Try.prog 100 #[.int .i64 st] w fun e w' => e = .returned (.tuple #[.bool (decide (st ≠ 4)), .bool (decide (st = 3)), .bool (decide (st = 1 ∨ st = 2))]) ∧ Ext w w' := by
  by_cases h4 : st = 4
  · subst h4
    go_enter Try.func100, Try.ntmps100
    go_wp2
    refine bodyPost_ret (v := .tuple #[.bool false, .bool false, .bool false]) (by simp [results, Try.results100]; try rfl) rfl ⟨by simp, Ext.refl _⟩
  by_cases h3 : st = 3
  · subst h3
    go_enter Try.func100, Try.ntmps100
    go_wp2
    refine bodyPost_ret (v := .tuple #[.bool true, .bool true, .bool false]) (by simp [results, Try.results100]; try rfl) rfl ⟨by simp, Ext.refl _⟩
  by_cases h1 : st = 1
  · subst h1
    go_enter Try.func100, Try.ntmps100
    go_wp2
    refine bodyPost_ret (v := .tuple #[.bool true, .bool false, .bool true]) (by simp [results, Try.results100]; try rfl) rfl ⟨by simp, Ext.refl _⟩
  by_cases h2 : st = 2
  · subst h2
    go_enter Try.func100, Try.ntmps100
    go_wp2
    refine bodyPost_ret (v := .tuple #[.bool true, .bool false, .bool true]) (by simp [results, Try.results100]; try rfl) rfl ⟨by simp, Ext.refl _⟩
  have e1 : decide (st ≠ 4) = true := by simp [h4]
  have e2 : decide (st = 3) = false := by simp [h3]
  have e3 : decide (st = 1 ∨ st = 2) = false := by simp [h1, h2]
  have g1 : (st == 1) = false := by simp [h1]
  have g2 : (st == 2) = false := by simp [h2]
  have g3 : (st == 3) = false := by simp [h3]
  have g4 : (st == 4) = false := by simp [h4]
  rw [e1, e2, e3]
  clear h1 h2 h3 h4 e1 e2 e3
  go_enter Try.func100, Try.ntmps100
  go_wp2
  refine bodyPost_ret (v := .tuple #[.bool true, .bool false, .bool false]) (by simp [results, Try.results100]; try rfl) rfl ⟨rfl, Ext.refl _⟩
/-- the first with that operator -/
def fndV (l : List (Int × Int × Int × Int × Bool × Bool)) (o : Int) : Int × Bool := match l.findIdx? (fun x => x.1 == o) with | some i => (((i : Nat) : Int), true) | none => (0, false)
theorem fndV_at {l : List (Int × Int × Int × Int × Bool × Bool)} {o : Int} {k : Nat} {x : (Int × Int × Int × Int × Bool × Bool)} (h : l[k]? = some x) (hx : x.1 = o) (hp : ∀ j y, j < k → l[j]? = some y → y.1 ≠ o) : fndV l o = (((k : Nat) : Int), true) := by
  have : l.findIdx? (fun x => x.1 == o) = some k := by
    rw [List.findIdx?_eq_some_iff_getElem]
    obtain ⟨hk, rfl⟩ := List.getElem?_eq_some_iff.1 h
    refine ⟨hk, by simpa using hx, fun j hj => ?_⟩
    have := hp j _ hj (List.getElem?_eq_getElem (by omega))
    simpa using this
  simp [fndV, this]
theorem fndV_none {l : List (Int × Int × Int × Int × Bool × Bool)} {o : Int} (hp : ∀ j y, j < l.length → l[j]? = some y → y.1 ≠ o) : fndV l o = (0, false) := by
  have : l.findIdx? (fun x => x.1 == o) = none := by
    rw [List.findIdx?_eq_none_iff]
    intro x hx
    obtain ⟨i, hi, rfl⟩ := List.mem_iff_getElem.1 hx
    have := hp i _ hi (List.getElem?_eq_getElem hi)
    simpa using this
  simp [fndV, this]
set_option maxRecDepth 100000 in
set_option maxHeartbeats 1000000 in
theorem rosFind_any (A : Option Addr) (n c : Nat) (l : List (Int × Int × Int × Int × Bool × Bool)) (o : Int) (w : World) (h : Sl w 6 A n c (l.flatMap valC)) :
    Calls Try.prog 39 #[.slice A n c, .int .i64 o] w fun e w' => e = .returned (.tuple #[.int .i64 (fndV l o).1, .bool (fndV l o).2]) ∧ Ext w w' := by
  have hl := h.rlen valC_len (by decide)
  have s1 := h.small
  have HS := Lib.hid h
  have HL := Lib.hid hl
  obtain ⟨⟨f1, f2⟩, hF⟩ : ∃ F, F = fndV l o := ⟨_, rfl⟩
  rw [← hF]
  have HF := Lib.hid hF
  clear h hl hF
  go_enter Try.func39, Try.ntmps39
  go_wp2
  go_loopg [10] n (fun gh i wx => gh ≤ n ∧ i = .int .i64 ((n - gh : Nat) : Int) ∧ Hid (∀ j y, j < n - gh → l[j]? = some y → y.1 ≠ o) ∧ Ext w wx)
  case atStart => exact ⟨Nat.le_refl _, by simp, Lib.hid (by intro j y hj; omega), Ext.refl _⟩
  case round =>
    obtain ⟨hg, hi, hp, hx⟩ := hrel
    obtain ⟨k, hk⟩ : ∃ k, k = n - gk := ⟨_, rfl⟩
    rw [← hk] at hi hp
    subst hi
    have XR := Lib.hid hx
    by_cases hz : gk = 0
    · have hkn : ¬ (k : Int) < n := by omega
      have hff : (f1, f2) = (0, false) := by
        rw [HF.out]
        exact fndV_none (fun j y hj hy => hp.out j y (by have := HL.out; omega) hy)
      obtain ⟨rfl, rfl⟩ := Prod.mk.inj hff
      clear hx hk hg hz hff
      go_wp2
      refine bodyPost_ret (v := .tuple #[.int .i64 0, .bool false]) (by simp [results, Try.results39]; try rfl) rfl ⟨rfl, XR.out⟩
    · by_cases hE : (l[k]?).map (·.1) = some o
      · have hkn : (k : Int) < n := by omega
        have hk1 : k < l.length := by have := HL.out; omega
        obtain ⟨b1, o1, rfl, hb1, hc1⟩ := HS.out.rec_ valC_len (show 0 < n from by omega)
        have x_0 := XR.out.has (hc1 k _ (List.getElem?_eq_getElem hk1) 0 _ rfl)
        have x_1 := XR.out.has (hc1 k _ (List.getElem?_eq_getElem hk1) 1 _ rfl)
        have x_2 := XR.out.has (hc1 k _ (List.getElem?_eq_getElem hk1) 2 _ rfl)
        have x_3 := XR.out.has (hc1 k _ (List.getElem?_eq_getElem hk1) 3 _ rfl)
        have x_4 := XR.out.has (hc1 k _ (List.getElem?_eq_getElem hk1) 4 _ rfl)
        have x_5 := XR.out.has (hc1 k _ (List.getElem?_eq_getElem hk1) 5 _ rfl)
        obtain ⟨x, hxx⟩ : ∃ x, x = l[k] := ⟨_, rfl⟩
        have hlk : l[k]? = some x := by rw [hxx]; exact List.getElem?_eq_getElem hk1
        rw [← hxx] at x_0 x_1 x_2 x_3 x_4 x_5
        obtain ⟨x0, x1, x2, x3, x4, x5⟩ := x
        simp only at x_0 x_1 x_2 x_3 x_4 x_5
        rw [Nat.add_zero] at x_0
        rw [← Nat.add_assoc] at x_1 x_2 x_3 x_4 x_5
        have HQ := Lib.hid hlk
        have HK := Lib.hid (And.intro hk (And.intro hg hz))
        have hEo : x0 = o := by have h := hE; rw [hlk] at h; injection h with h
        subst hEo
        have hff : (f1, f2) = (((k : Nat) : Int), true) := by
          rw [HF.out]
          exact fndV_at hlk rfl hp.out
        obtain ⟨rfl, rfl⟩ := Prod.mk.inj hff
        have e9 : (x0 == x0) = true := by simp
        clear hx hk hg hz hc1 hxx hk1 hlk hE hff
        go_wp2_with fail
        refine bodyPost_ret (v := .tuple #[.int .i64 (k : Int), .bool true]) (by simp [results, Try.results39]; try rfl) rfl ⟨rfl, ?_⟩
        exact (by repeat (first | with_reducible exact XR.out | with_reducible refine Ext.drew ?_ | with_reducible refine Ext.drewN ?_ _ | with_reducible refine Ext.alloc ?_ _ | with_reducible refine Ext.setCell ?_ (by first | omega | (simp; done) | (simp; omega)) _))
      · have hkn : (k : Int) < n := by omega
        have hk1 : k < l.length := by have := HL.out; omega
        obtain ⟨b1, o1, rfl, hb1, hc1⟩ := HS.out.rec_ valC_len (show 0 < n from by omega)
        have x_0 := XR.out.has (hc1 k _ (List.getElem?_eq_getElem hk1) 0 _ rfl)
        have x_1 := XR.out.has (hc1 k _ (List.getElem?_eq_getElem hk1) 1 _ rfl)
        have x_2 := XR.out.has (hc1 k _ (List.getElem?_eq_getElem hk1) 2 _ rfl)
        have x_3 := XR.out.has (hc1 k _ (List.getElem?_eq_getElem hk1) 3 _ rfl)
        have x_4 := XR.out.has (hc1 k _ (List.getElem?_eq_getElem hk1) 4 _ rfl)
        have x_5 := XR.out.has (hc1 k _ (List.getElem?_eq_getElem hk1) 5 _ rfl)
        obtain ⟨x, hxx⟩ : ∃ x, x = l[k] := ⟨_, rfl⟩
        have hlk : l[k]? = some x := by rw [hxx]; exact List.getElem?_eq_getElem hk1
        rw [← hxx] at x_0 x_1 x_2 x_3 x_4 x_5
        obtain ⟨x0, x1, x2, x3, x4, x5⟩ := x
        simp only at x_0 x_1 x_2 x_3 x_4 x_5
        rw [Nat.add_zero] at x_0
        rw [← Nat.add_assoc] at x_1 x_2 x_3 x_4 x_5
        have HQ := Lib.hid hlk
        have HK := Lib.hid (And.intro hk (And.intro hg hz))
        have hEo : ¬ x0 = o := by intro h; apply hE; rw [hlk]; simp [h]
        have e9 : (x0 == o) = false := by simp [hEo]
        clear hx hk hg hz hc1 hxx hk1 hlk hE
        go_wp2_with fail
        go_roundg (gk - 1)
        case measure => have := HK.out; omega
        case rel =>
          refine ⟨by have := HK.out; omega, num_eq (by have := HK.out; omega), Lib.hid ?_, (by repeat (first | with_reducible exact XR.out | with_reducible refine Ext.drew ?_ | with_reducible refine Ext.drewN ?_ _ | with_reducible refine Ext.alloc ?_ _ | with_reducible refine Ext.setCell ?_ (by first | omega | (simp; done) | (simp; omega)) _))⟩
          intro j y hj hy
          rcases Nat.lt_or_ge j k with h | h
          · exact hp.out j y h hy
          · have e : j = k := by have := HK.out; omega
            subst e
            rw [HQ.out] at hy
            injection hy with hy
            subst hy
            exact hEo
end Go.Proofs.Ytjdpgapmdmpjjaa
