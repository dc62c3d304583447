/- What the law Que rests on, part 5 of 6: Q12, BytesM, KitC, QKnownW, Q15, QBackW. Conditions stand in each lemma. -/
import Derived.WalkKit
import Derived.Deep.QuietTactic
import Derived.Deep.Draws
import Derived.Laws.OwnMore
import Derived.Laws.AppendOwn
import Derived.OwnWalk
import Derived.RangeFuncBox
import Derived.RangeFuncLeaves
import Derived.Shelf.Abstract
import Derived.OwnWalkIn
import Derived.TacticsInMore
import Derived.LoopNIn
import Derived.LoopIn
import Derived.Maps.AppendAt
import Derived.Test.YtnbeejgppooamaaRows
import Derived.Lib.Hide
import Derived.Deep.Onto
import Derived.ProofKit
import Derived.ChangeOld
import Derived.OpenShut
import Derived.Deep.Slices
import Derived.BigQuiet
import Derived.IntWalk
import Derived.Lib.SliceRun
import Derived.Deep.LoopGhost
import Derived.WalkSpells
import Derived.WalkLawsBesides
import Derived.Deep.RegionHeld3
import Derived.Lib.SmallJoins
import Derived.ArgAppend
import Derived.Test.YtnbeejgppooamaaShelf
import Derived.Test.YtnbeejgppooamaaDivNorm
import Derived.Deep.DeepCutAuto
import Derived.Deep.CutBlock
import Derived.Shelf.Spec.BitsCarry
import Derived.Test.YtnbeejgppooamaaFixRefMath
import Derived.Test.YtnbeejgppooamaaFixDivideMath
import Derived.WalkMore
import Derived.Laws.StructEq
import Derived.Laws.BytesArg
import Derived.Test.YtnbeejgppooamaaSlQue4
set_option linter.unusedVariables false
set_option linter.unusedSimpArgs false
namespace Go.Proofs.Ytnbeejgppooamaa
section
open Go.RowKit Go.ChangeShapes Go.WideShapes Go.Deep Go.Joins
set_option maxRecDepth 100000 in
set_option maxHeartbeats 4000000 in
theorem sortSearch_at (g : Nat) (bd cp : Array Value) (n m : Nat) (w : World) (eg : ∀ args w, (callFunc g args).run Try.prog w = .ok (.enter g args) w) (hn : n < 4611686018427387904) (hm : m ≤ n)
    (hf : ∀ (wx : World) (i : Nat), Ext w wx → i < n → Calls Try.prog g (bd ++ #[.int .i64 (i : Int)] ++ cp) wx fun e w' => e = .returned (.bool (decide (m ≤ i))) ∧ Ext wx w') :
    Calls Try.prog 56 #[.int .i64 n, .func (.func g) bd cp] w fun e w' => e = .returned (.int .i64 (m : Int)) ∧ Ext w w' := by
  have HF := Lib.hid hf
  clear hf
  go_enter Try.func56, Try.ntmps56
  go_wp2
  go_loopg [5, 6] n (fun gh s5 s6 wr => ∃ (lo hi : Nat), s5 = .int .i64 lo ∧ s6 = .int .i64 hi ∧ lo ≤ m ∧ m ≤ hi ∧ hi ≤ n ∧ hi - lo ≤ gh ∧ Hid (Ext w wr))
  case atStart => exact ⟨0, n, rfl, rfl, Nat.zero_le _, hm, Nat.le_refl _, by omega, Lib.hid (Ext.refl _)⟩
  case round =>
    obtain ⟨lo, hi, rfl, rfl, h1, h2, h3, h4, X⟩ := hrel
    by_cases hlt : lo < hi
    · have hc := HF.out wr ((lo + hi) / 2) X.out (by omega)
      rw [show (((lo + hi) / 2 : Nat) : Int) = ((lo : Int) + (hi : Int)) / 2 by omega] at hc
      by_cases hp : m ≤ (lo + hi) / 2
      · rw [decide_eq_true hp] at hc
        go_wp2_with (go_at_fn g; refine hc.mono ?_; rintro e w' ⟨rfl, hx⟩; have X2 := Lib.hid (Ext.trans X.out hx); clear hx hc)
        go_roundg ((lo + hi) / 2 - lo)
        case measure => omega
        case rel => exact ⟨lo, (lo + hi) / 2, rfl, by rw [show ((lo : Int) + (hi : Int)) / 2 = (((lo + hi) / 2 : Nat) : Int) by omega], h1, hp, by omega, by omega, X2⟩
      · rw [decide_eq_false hp] at hc
        go_wp2_with (go_at_fn g; refine hc.mono ?_; rintro e w' ⟨rfl, hx⟩; have X2 := Lib.hid (Ext.trans X.out hx); clear hx hc)
        go_roundg (hi - ((lo + hi) / 2 + 1))
        case measure => omega
        case rel => exact ⟨(lo + hi) / 2 + 1, hi, by rw [show ((lo : Int) + (hi : Int)) / 2 + 1 = (((lo + hi) / 2 + 1 : Nat) : Int) by omega], rfl, by omega, h2, h3, by omega, X2⟩
    · obtain rfl : lo = m := by omega
      obtain rfl : hi = lo := by omega
      go_wp2
      go_ret
      exact ⟨rfl, X.out⟩
theorem splitQ_false {α : Type} {l : List α} {q : α → Bool} (h : ∀ x ∈ l, q x = false) : l.filter q = [] ∧ l.filter (fun x => !q x) = l := by
  refine ⟨List.filter_eq_nil_iff.2 (fun x hx => by rw [h x hx]; simp), List.filter_eq_self.2 (fun x hx => by rw [h x hx]; rfl)⟩
/-- a list of which what holds stands ahead of what does not, split -/
theorem splitQ_mono {α : Type} (q : α → Bool) : ∀ (l : List α), l.Pairwise (fun x y => q y = true → q x = true) →
    ∃ m, m ≤ l.length ∧ l.filter q = l.take m ∧ l.filter (fun x => !q x) = l.drop m ∧ ∀ (k : Nat) x, l[k]? = some x → q x = decide (k < m)
  | [], _ => ⟨0, Nat.le_refl _, rfl, rfl, fun k x h => by simp at h⟩
  | a :: l, h => by
    obtain ⟨h0, hP⟩ := List.pairwise_cons.1 h
    cases ha : q a with
    | false =>
      have hall : ∀ x ∈ a :: l, q x = false := by
        intro x hx
        rcases List.mem_cons.1 hx with rfl | hx
        · exact ha
        · cases hq : q x with
          | false => rfl
          | true => have := h0 x hx hq; rw [ha] at this; cases this
      obtain ⟨h1, h2⟩ := splitQ_false hall
      refine ⟨0, Nat.zero_le _, h1, h2, fun k x hk => ?_⟩
      rw [hall x (List.mem_of_getElem? hk)]
      simp
    | true =>
      obtain ⟨m, h1, h2, h3, h4⟩ := splitQ_mono q l hP
      refine ⟨m + 1, by simpa using h1, by rw [List.filter_cons_of_pos ha, h2]; rfl, by rw [List.filter_cons_of_neg (by rw [ha]; simp), h3]; rfl, fun k x hk => ?_⟩
      cases k with
      | zero => simp at hk; subst hk; rw [ha]; simp
      | succ k => rw [h4 k x (by simpa using hk)]; simp
theorem oneQ_cases {x : (Int × Int × Int × Int × Int × Int × Int × Int)} {a : Int} (h : oneQ x a = 0) : 0 ≤ x.1 ∧ x.1 < 64 ∧ chkS x.2.1 x.2.2.1 x.2.2.2.1 x.2.2.2.2.1 = 0 ∧ 1 ≤ crE x ∧ crE x ≤ 4294967296 ∧ x.2.2.1 ≤ crE x ∧ a ≤ crE x ∧ x.2.2.2.2.2.2.1 ≠ 0 ∧ baE x ≤ x.2.2.2.2.2.2.1 := oneG_cases h
/-- a list in which each entry may be behind the one ahead of it -/
theorem chkGo_ok : ∀ {l : List (Int × Int × Int × Int × Int × Int × Int × Int)} {a : Int} {k : Nat}, (chkGo a k l).1 = 0 → (∀ x ∈ l, a ≤ crE x ∧ ∃ b, oneQ x b = 0) ∧ l.Pairwise (fun x y => crE x ≤ crE y)
  | [], _, _, _ => ⟨fun x h => (by cases h), List.Pairwise.nil⟩
  | x :: l, a, k, h => by
    unfold chkGo at h
    by_cases hx : oneQ x a = 0
    · rw [if_neg (by simpa using hx)] at h
      obtain ⟨h1, h2⟩ := chkGo_ok h
      obtain ⟨_, _, _, _, _, _, h3, _, _⟩ := oneQ_cases hx
      refine ⟨fun y hy => ?_, List.pairwise_cons.2 ⟨fun y hy => (h1 y hy).1, h2⟩⟩
      rcases List.mem_cons.1 hy with rfl | hy
      · exact ⟨h3, a, hx⟩
      · exact ⟨by have := (h1 y hy).1; omega, (h1 y hy).2⟩
    · rw [if_pos hx] at h
      exact absurd h hx
theorem chkQ_go {l : List (Int × Int × Int × Int × Int × Int × Int × Int)} (h : (chkQ l).1 = 0) : (chkGo 0 0 l).1 = 0 := by
  unfold chkQ at h
  by_cases h1 : 32768 < l.length
  · rw [if_pos h1] at h; cases h
  · rw [if_neg h1] at h
    by_cases h2 : (chkGo 0 0 l).1 = 0
    · exact h2
    · rw [if_pos h2] at h; exact absurd h h2
theorem chkQ_sorted {l : List (Int × Int × Int × Int × Int × Int × Int × Int)} (h : (chkQ l).1 = 0) : l.Pairwise (fun x y => crE x ≤ crE y) := (chkGo_ok (chkQ_go h)).2
theorem chkQ_may {l : List (Int × Int × Int × Int × Int × Int × Int × Int)} (h : (chkQ l).1 = 0) : ∀ x ∈ l, ∃ b, oneQ x b = 0 := fun x hx => ((chkGo_ok (chkQ_go h)).1 x hx).2
/-- why nothing is told of ripe entries; which are ripe, which are left -/
def ripG (e1 u : Int) (b : Bool) : Int := if e1 ≠ 0 then e1 else if b = false then 3 else if u < 1 then 3 else if 1048576 < u then 3 else 0
def ripQE (l : List (Int × Int × Int × Int × Int × Int × Int × Int)) (h u : Int) : Int := ripG (chkQ l).1 u (decide (1 ≤ h) && decide (h ≤ 4294967296))
def isRip (h u : Int) (x : (Int × Int × Int × Int × Int × Int × Int × Int)) : Bool := decide (crE x + u ≤ h)
def ripQ (l : List (Int × Int × Int × Int × Int × Int × Int × Int)) (h u : Int) : List (Int × Int × Int × Int × Int × Int × Int × Int) × List (Int × Int × Int × Int × Int × Int × Int × Int) × Int := if ripQE l h u = 0 then (l.filter (isRip h u), l.filter (fun x => !isRip h u x), 0) else ([], [], ripQE l h u)
/-- two windows of one row of one's own -/
def Two (w : World) (base e : Nat) (A1 : Option Addr) (n1 : Nat) (A2 : Option Addr) (n2 : Nat) : Prop :=
  (n1 = 0 ∧ n2 = 0) ∨ ∃ g N C K1 K2 xs, g < e ∧ w.ownsRow base 27 8 (.slice (some ⟨g, 0, none⟩) N C) N xs ∧ N ≤ 100000 ∧ (n1 = 0 ∨ A1 = some ⟨g, K1 * 8, none⟩ ∧ K1 + n1 ≤ N) ∧ (n2 = 0 ∨ A2 = some ⟨g, K2 * 8, none⟩ ∧ K2 + n2 ≤ N)
theorem Two.ext {w w' : World} {base e : Nat} {A1 A2 : Option Addr} {n1 n2 : Nat} (h : Two w base e A1 n1 A2 n2) (hx : Ext w w') : Two w' base e A1 n1 A2 n2 := by
  rcases h with h | ⟨g, N, C, K1, K2, xs, h1, h2, h3, h4, h5⟩
  · exact .inl h
  · exact .inr ⟨g, N, C, K1, K2, xs, h1, own_keep h2 hx, h3, h4, h5⟩
theorem Two.nil {w : World} {base e : Nat} {A1 A2 : Option Addr} : Two w base e A1 0 A2 0 := .inl ⟨rfl, rfl⟩
/-- two lists handed back that are only read; and as windows of one row -/
def RetRip (r1 r2 : List (Int × Int × Int × Int × Int × Int × Int × Int)) (er : Int) (w : World) (e : Ending) (w' : World) : Prop := ∃ A1 c1 A2 c2, e = .returned (.tuple #[.slice A1 r1.length c1, .slice A2 r2.length c2, .int .i64 er]) ∧ Sl w' 8 A1 r1.length c1 (r1.flatMap entC) ∧ Sl w' 8 A2 r2.length c2 (r2.flatMap entC) ∧ Two w' w.heap.size w'.heap.size A1 r1.length A2 r2.length ∧ Ext w w'
def RetRip2 (r1 r2 : List (Int × Int × Int × Int × Int × Int × Int × Int)) (er : Int) (w : World) (e : Ending) (w' : World) : Prop := ∃ A1 c1 A2 c2, e = .returned (.tuple #[.slice A1 r1.length c1, .slice A2 r2.length c2, .int .i64 er]) ∧ Sl w' 8 A1 r1.length c1 (r1.flatMap entC) ∧ Sl w' 8 A2 r2.length c2 (r2.flatMap entC) ∧ Ext w w'
theorem RetRip.nil {er : Int} {w w' : World} (hx : Ext w w') : RetRip [] [] er w (.returned (.tuple #[.slice none 0 0, .slice none 0 0, .int .i64 er])) w' :=
  ⟨none, 0, none, 0, rfl, OwnEnt.sl (OwnEnt.nil w' 0), OwnEnt.sl (OwnEnt.nil w' 0), Two.nil, hx⟩
theorem RetRip2.nil {er : Int} {w w' : World} (hx : Ext w w') : RetRip2 [] [] er w (.returned (.tuple #[.slice none 0 0, .slice none 0 0, .int .i64 er])) w' :=
  ⟨none, 0, none, 0, rfl, OwnEnt.sl (OwnEnt.nil w' 0), OwnEnt.sl (OwnEnt.nil w' 0), hx⟩
theorem RetRip.mk {base : Nat} {l : List (Int × Int × Int × Int × Int × Int × Int × Int)} {m n c : Nat} {A : Option Addr} {w w' : World} (h : OwnEnt w' w.heap.size (.slice A n c) n l) (hm : m ≤ n) (hl : l.length = n) (hn : n ≤ 100000) (hx : Ext w w') :
    RetRip (l.take m) (l.drop m) 0 w (.returned (.tuple #[.slice A m m, .slice (if c = m then A else A.map (·.add (m * 8))) (n - m) (c - m), .int .i64 0])) w' := by
  have hs := OwnEnt.sl h
  have e1 : (l.take m).length = m := by rw [List.length_take]; omega
  have e2 : (l.drop m).length = n - m := by rw [List.length_drop]; omega
  have t1 : (l.flatMap entC).take (m * 8) = (l.take m).flatMap entC := by
    conv => lhs; rw [← List.take_append_drop m l, List.flatMap_append]
    rw [List.take_append_of_le_length (by rw [flat_len entC_len, e1]; omega), List.take_of_length_le (by rw [flat_len entC_len, e1]; omega)]
  have t2 : (l.flatMap entC).drop (m * 8) = (l.drop m).flatMap entC := by
    conv => lhs; rw [← List.take_append_drop m l, List.flatMap_append]
    rw [List.drop_append_of_le_length (by rw [flat_len entC_len, e1]; omega), List.drop_eq_nil_of_le (by rw [flat_len entC_len, e1]; omega), List.nil_append]
  have s1 := hs.take hm
  have s2 := hs.drop hm
  rw [t1] at s1
  rw [t2] at s2
  refine ⟨A, m, _, c - m, by rw [e1, e2], ?_, by rw [e2]; exact s2, ?_, hx⟩
  · rw [e1]
    exact ⟨s1.1, Nat.le_refl _, by have := s1.2.1; have := s1.2.2.1; omega, s1.2.2.2⟩
  · rw [e1, e2]
    by_cases h0 : n = 0
    · obtain rfl : m = 0 := by omega
      subst h0
      exact Two.nil
    · obtain ⟨g, rfl, hg1, hg2⟩ := OwnEnt.box h (by omega)
      refine .inr ⟨g, n, c, 0, m, _, hg2, h, hn, .inr ⟨by simp, by omega⟩, ?_⟩
      by_cases hz : n - m = 0
      · exact .inl hz
      · have hc := hs.2.1
        rw [if_neg (by omega)]
        exact .inr ⟨by simp [addr_add], by omega⟩
theorem RetRip2.mk {r1 r2 : List (Int × Int × Int × Int × Int × Int × Int × Int)} {v1 v2 : Value} {b1 b2 : Nat} {w w' : World} (h1 : OwnEnt w' b1 v1 r1.length r1) (h2 : OwnEnt w' b2 v2 r2.length r2) (hx : Ext w w') : RetRip2 r1 r2 0 w (.returned (.tuple #[v1, v2, .int .i64 0])) w' := by
  obtain ⟨A1, c1, rfl, _, _⟩ := own_parts2 h1
  obtain ⟨A2, c2, rfl, _, _⟩ := own_parts2 h2
  exact ⟨A1, c1, A2, c2, rfl, OwnEnt.sl h1, OwnEnt.sl h2, hx⟩
set_option maxRecDepth 100000 in
set_option maxHeartbeats 4000000 in
theorem qRipe1_any (A : Option Addr) (n c k : Nat) (l : List (Int × Int × Int × Int × Int × Int × Int × Int)) (hh u y : Int) (xo xv xs xp xf xc xi xb : Int) (b : Bool) (p q r : Nat) (w : World) (h : Sl w 8 A n c (l.flatMap entC)) (hk : l[k]? = some (xo, xv, xs, xp, xf, xc, xi, xb)) (hwr : IntKind.i64.wrap (xc + u) = y) (hb : b = decide (hh < y)) (p_0 : w.cell? ⟨p, 0, none⟩ = some (.int .i64 hh)) (q_0 : w.cell? ⟨q, 0, none⟩ = some (.slice A n c)) (r_0 : w.cell? ⟨r, 0, none⟩ = some (.int .i64 u)) :
    Calls Try.prog 57 #[.int .i64 (k : Int), .pointer (some ⟨p, 0, none⟩), .pointer (some ⟨q, 0, none⟩), .pointer (some ⟨r, 0, none⟩)] w fun e w' => e = .returned (.bool b) ∧ Ext w w' := by
  have hl := h.rlen entC_len (by decide)
  have hkl := (List.getElem?_eq_some_iff.1 hk).1
  have hkn : (k : Int) < n := by omega
  obtain ⟨b1, o1, rfl, hb1, hc1⟩ := h.rec_ entC_len (show 0 < n from by omega)
  have x_5 := hc1 k _ hk 5 _ rfl
  simp only at x_5
  rw [← Nat.add_assoc] at x_5
  have hwr2 : Go.RowKit.wrap64 (xc + u) = y := by rw [← IntWalk.i64_left]; exact hwr
  have s1 := h.small
  have HS := Lib.hid h
  have HB := Lib.hid hb
  clear h hc1 hl hkl hk hb
  go_enter Try.func57, Try.ntmps57
  go_wp2_with fail
  refine wp_region_held_drew (S := fun w' => w'.cell? ⟨p, 0, none⟩ = some (.int .i64 hh) ∧ w'.cell? ⟨q, 0, none⟩ = some (.slice (some ⟨b1, o1, none⟩) n c) ∧ w'.cell? ⟨r, 0, none⟩ = some (.int .i64 u) ∧ w'.cell? ⟨b1, o1 + k * 8 + 5, none⟩ = some (.int .i64 xc)) (by kernel_rfl) (by first | exact ⟨p_0, q_0, r_0, x_5⟩ | (simp [go_sem, World.cell?_alloc_past, p_0, q_0, r_0, x_5]; done)) (fun hHeld => ?_)
  (refine' take_in 0 rfl (by kernel_rfl) (by kernel_rfl) (by kernel_rfl) (fun _ _ _ h => h) (by rfl) (by assumption) ?_ ?_; rotate_left; focus (intro w hSw; (try dsimp only at hSw); go_simp; try with_reducible rfl)); try simp only [Act.put, List.setIfInBounds_toArray, List.set_cons_zero, List.set_cons_succ]
  (refine' take_in 1 rfl (by kernel_rfl) (by kernel_rfl) (by kernel_rfl) (fun _ _ _ h => h) (by rfl) (by assumption) ?_ ?_; rotate_left; focus (intro w hSw; (try dsimp only at hSw); go_simp; try with_reducible rfl)); try simp only [Act.put, List.setIfInBounds_toArray, List.set_cons_zero, List.set_cons_succ]
  (refine' take_in 2 rfl (by kernel_rfl) (by kernel_rfl) (by kernel_rfl) (fun _ _ _ h => h) (by rfl) (by assumption) ?_ ?_; rotate_left; focus (intro w hSw; (try dsimp only at hSw); go_simp; try with_reducible rfl)); try simp only [Act.put, List.setIfInBounds_toArray, List.set_cons_zero, List.set_cons_succ]
  (refine' take_in 3 rfl (by kernel_rfl) (by kernel_rfl) (by kernel_rfl) (fun _ _ _ h => h) (by rfl) (by assumption) ?_ ?_; rotate_left; focus (intro w hSw; (try dsimp only at hSw); go_simp; try with_reducible rfl)); try simp only [Act.put, List.setIfInBounds_toArray, List.set_cons_zero, List.set_cons_succ]
  (refine' take_in 4 rfl (by kernel_rfl) (by kernel_rfl) (by kernel_rfl) (fun _ _ _ h => h) (by rfl) (by assumption) ?_ ?_; rotate_left; focus (intro w hSw; (try dsimp only at hSw); go_simp; try with_reducible rfl)); try simp only [Act.put, List.setIfInBounds_toArray, List.set_cons_zero, List.set_cons_succ]
  (refine' take_in 5 rfl (by kernel_rfl) (by kernel_rfl) (by kernel_rfl) (fun _ _ _ h => h) (by rfl) (by assumption) ?_ ?_; rotate_left; focus (intro w hSw; (try dsimp only at hSw); go_simp; try with_reducible rfl)); try simp only [Act.put, List.setIfInBounds_toArray, List.set_cons_zero, List.set_cons_succ]
  (refine' take_in 6 rfl (by kernel_rfl) (by kernel_rfl) (by kernel_rfl) (fun _ _ _ h => h) (by rfl) (by assumption) ?_ ?_; rotate_left; focus (intro w hSw; (try dsimp only at hSw); go_simp; try with_reducible rfl)); try simp only [Act.put, List.setIfInBounds_toArray, List.set_cons_zero, List.set_cons_succ]
  (refine' take_in 7 rfl (by kernel_rfl) (by kernel_rfl) (by kernel_rfl) (fun _ _ _ h => h) (by rfl) (by assumption) ?_ ?_; rotate_left; focus (intro w hSw; (try dsimp only at hSw); go_simp; try with_reducible rfl)); try simp only [Act.put, List.setIfInBounds_toArray, List.set_cons_zero, List.set_cons_succ]
  (refine' take_in 8 rfl (by kernel_rfl) (by kernel_rfl) (by kernel_rfl) (fun _ _ _ h => h) (by rfl) (by assumption) ?_ ?_; rotate_left; focus (intro w hSw; (try dsimp only at hSw); go_simp; try with_reducible rfl)); try simp only [Act.put, List.setIfInBounds_toArray, List.set_cons_zero, List.set_cons_succ]
  (refine' take_in 9 rfl (by kernel_rfl) (by kernel_rfl) (by kernel_rfl) (fun _ _ _ h => h) (by rfl) (by assumption) ?_ ?_; rotate_left; focus (intro w hSw; (try dsimp only at hSw); go_simp; try with_reducible rfl)); try simp only [Act.put, List.setIfInBounds_toArray, List.set_cons_zero, List.set_cons_succ]
  refine wpAnyH_done (by kernel_rfl) ?_ _
  go_wp2_with fail
  go_ret
  exact ⟨by rw [HB.out]; first | done | rfl | simp, (by repeat (first | with_reducible exact Ext.refl w | with_reducible refine Ext.drew ?_ | with_reducible refine Ext.drewN ?_ _ | with_reducible refine Ext.alloc ?_ _ | with_reducible refine Ext.setCell ?_ (by first | omega | (simp; done) | (simp; omega)) _))⟩
set_option maxRecDepth 100000 in
set_option maxHeartbeats 4000000 in
theorem qripe_at (A : Option Addr) (n c : Nat) (l : List (Int × Int × Int × Int × Int × Int × Int × Int)) (h u e1 e2 er : Int) (hb : Bool) (m : Nat) (w : World) (hs : Sl w 8 A n c (l.flatMap entC)) (hn : n ≤ 100000) (hf : ∀ x ∈ l, FitsQ x) (hnil : A = none → c = 0) (he : chkQ l = (e1, e2)) (hhb : hb = (decide (1 ≤ h) && decide (h ≤ 4294967296))) (hv : er = ripG e1 u hb) (R1 R2 : List (Int × Int × Int × Int × Int × Int × Int × Int)) (hR : (R1, R2) = if er = 0 then (l.filter (isRip h u), l.filter (fun x => !isRip h u x)) else ([], [])) (hm : er = 0 → m ≤ n ∧ l.filter (isRip h u) = l.take m ∧ l.filter (fun x => !isRip h u x) = l.drop m ∧ ∀ (k : Nat) x, l[k]? = some x → isRip h u x = decide (k < m)) :
    Calls Try.prog 28 #[.slice A n c, .int .i64 h, .int .i64 u] w (RetRip R1 R2 er w) := by
  obtain ⟨i0, hi0, hz0, hz1, hz2⟩ := ent_infoP
  have hll := hs.rlen entC_len (by decide)
  have hns := hs.small
  have hcap := hs.2.1
  have HLL := Lib.hid hll
  have HS := Lib.hid hs
  have HS0 := Lib.hid hs
  have HF := Lib.hid hf
  have HV := Lib.hid hv
  have HR := Lib.hid hR
  have HN := Lib.hid hnil
  have HE1 := Lib.hid he
  have HM := Lib.hid hm
  have hmf : ∀ (fn : Fn) (first cap : Array Value) (w : World), (Instr.makeFunc fn first cap).run Try.prog w = .ok (.func fn first cap) w := fun _ _ _ _ => rfl
  have eg : ∀ (args : Array Value) (w : World), (callFunc 57 args).run Try.prog w = .ok (.enter 57 args) w := enters_of (P := Try.prog) Try.func57 (by kernel_rfl) rfl
  clear hm
  have CC := Lib.hid (fun w' (hx : Ext w w') => qcheck_any A n c l e1 e2 w' (hs.ext hx) hf he)
  have CH := Lib.hid (fun w' => qheight_any h hb hhb w')
  clear hs hf he hhb hv hR hnil hll
  go_enter Try.func28, Try.ntmps28
  go_wp2_with fail
  (with_reducible refine (CC.out _ (by repeat (first | with_reducible exact Ext.refl w | with_reducible refine Ext.drew ?_ | with_reducible refine Ext.drewN ?_ _ | with_reducible refine Ext.alloc ?_ _ | with_reducible refine Ext.setCell ?_ (by first | omega | (simp; done) | (simp; omega)) _))).mono ?_)
  rintro e w1 ⟨rfl, hx1⟩
  have c0_0 : w1.cell? ⟨w.heap.size, 0, none⟩ = some (.slice A n c) := hx1.has (by first | fail | (simp [go_sem, World.cell?_alloc_past]; done))
  have c1_0 : w1.cell? ⟨w.heap.size + 1, 0, none⟩ = some (.int .i64 h) := hx1.has (by first | fail | (simp [go_sem, World.cell?_alloc_past]; done))
  have c2_0 : w1.cell? ⟨w.heap.size + 1 + 1, 0, none⟩ = some (.int .i64 u) := hx1.has (by first | fail | (simp [go_sem, World.cell?_alloc_past]; done))
  have z1 := hx1.size
  try simp at z1
  have lt_c0_c1 : w.heap.size < w.heap.size + 1 := by omega
  have ne_c0_c1 : ¬ w.heap.size = w.heap.size + 1 := by omega
  have lt_c0_c2 : w.heap.size < w.heap.size + 1 + 1 := by omega
  have ne_c0_c2 : ¬ w.heap.size = w.heap.size + 1 + 1 := by omega
  have ne_c1_c0 : ¬ w.heap.size + 1 = w.heap.size := by omega
  have lt_c1_c2 : w.heap.size + 1 < w.heap.size + 1 + 1 := by omega
  have ne_c1_c2 : ¬ w.heap.size + 1 = w.heap.size + 1 + 1 := by omega
  have ne_c2_c0 : ¬ w.heap.size + 1 + 1 = w.heap.size := by omega
  have ne_c2_c1 : ¬ w.heap.size + 1 + 1 = w.heap.size + 1 := by omega
  have rc0 : w.heap.size < w1.heap.size := by omega
  have rc0a : w.heap.size < w1.heap.size + 1 := by omega
  have rc0b : w.heap.size < w1.heap.size + 1 + 1 := by omega
  have rc0c : w.heap.size < w1.heap.size + 1 + 1 + 1 := by omega
  have rc0n : ¬ w.heap.size = w1.heap.size := by omega
  have rc1 : w.heap.size + 1 < w1.heap.size := by omega
  have rc1a : w.heap.size + 1 < w1.heap.size + 1 := by omega
  have rc1b : w.heap.size + 1 < w1.heap.size + 1 + 1 := by omega
  have rc1c : w.heap.size + 1 < w1.heap.size + 1 + 1 + 1 := by omega
  have rc1n : ¬ w.heap.size + 1 = w1.heap.size := by omega
  have rc2 : w.heap.size + 1 + 1 < w1.heap.size := by omega
  have rc2a : w.heap.size + 1 + 1 < w1.heap.size + 1 := by omega
  have rc2b : w.heap.size + 1 + 1 < w1.heap.size + 1 + 1 := by omega
  have rc2c : w.heap.size + 1 + 1 < w1.heap.size + 1 + 1 + 1 := by omega
  have rc2n : ¬ w.heap.size + 1 + 1 = w1.heap.size := by omega
  replace HS := Lib.hid (HS.out.ext (Ext.trans (by repeat (first | with_reducible exact Ext.refl _ | with_reducible refine Ext.drew ?_ | with_reducible refine Ext.drewN ?_ _ | with_reducible refine Ext.alloc ?_ _ | with_reducible refine Ext.setCell ?_ (by first | omega | (simp; done) | (simp; omega)) _)) hx1))
  have X1 : Hid (Ext w w1) := Lib.hid (Ext.trans (by repeat (first | with_reducible exact Ext.refl w | with_reducible refine Ext.drew ?_ | with_reducible refine Ext.drewN ?_ _ | with_reducible refine Ext.alloc ?_ _ | with_reducible refine Ext.setCell ?_ (by first | omega | (simp; done) | (simp; omega)) _)) hx1)
  clear hx1 z1
  by_cases q1 : ¬ e1 = 0
  · have q1b : (e1 != 0) = true := by simp [q1]
    go_wp2_with fail
    have hv9 : er = e1 := (by rw [HV.out]; unfold ripG; (repeat' split) <;> first | omega | simp_all)
    obtain ⟨rfl, rfl⟩ : R1 = [] ∧ R2 = [] := by have h := HR.out; rw [if_neg (by omega)] at h; simpa using h
    rw [hv9]
    refine bodyPost_ret (v := .tuple #[.slice none 0 0, .slice none 0 0, .int .i64 e1]) (by simp [results, Try.results28, go_sem, World.cell?_alloc_past, c0_0, c1_0, c2_0, ne_c0_c1, ne_c0_c2, ne_c1_c0, ne_c1_c2, ne_c2_c0, ne_c2_c1, rc0, rc0a, rc0b, rc0c, rc0n, rc1, rc1a, rc1b, rc1c, rc1n, rc2, rc2a, rc2b, rc2c, rc2n]; try rfl) rfl (RetRip.nil ?_)
    exact (by repeat (first | with_reducible exact X1.out | with_reducible refine Ext.drew ?_ | with_reducible refine Ext.drewN ?_ _ | with_reducible refine Ext.alloc ?_ _ | with_reducible refine Ext.setCell ?_ (by first | omega | (simp; done) | (simp; omega)) _))
  · have q1b : (e1 != 0) = false := by simpa using q1
    cases hb
    · go_wp2_with fail
      (with_reducible refine (CH.out _).mono ?_)
      rintro e w_1 ⟨rfl, rfl⟩
      go_wp2_with fail
      have hv9 : er = 3 := (by rw [HV.out]; unfold ripG; (repeat' split) <;> first | omega | simp_all)
      obtain ⟨rfl, rfl⟩ : R1 = [] ∧ R2 = [] := by have h := HR.out; rw [if_neg (by omega)] at h; simpa using h
      rw [hv9]
      refine bodyPost_ret (v := .tuple #[.slice none 0 0, .slice none 0 0, .int .i64 3]) (by simp [results, Try.results28, go_sem, World.cell?_alloc_past, c0_0, c1_0, c2_0, ne_c0_c1, ne_c0_c2, ne_c1_c0, ne_c1_c2, ne_c2_c0, ne_c2_c1, rc0, rc0a, rc0b, rc0c, rc0n, rc1, rc1a, rc1b, rc1c, rc1n, rc2, rc2a, rc2b, rc2c, rc2n]; try rfl) rfl (RetRip.nil ?_)
      exact (by repeat (first | with_reducible exact X1.out | with_reducible refine Ext.drew ?_ | with_reducible refine Ext.drewN ?_ _ | with_reducible refine Ext.alloc ?_ _ | with_reducible refine Ext.setCell ?_ (by first | omega | (simp; done) | (simp; omega)) _))
    · by_cases q2 : u < 1
      · have d2 : decide (u < 1) = true := decide_eq_true q2
        have Q2 := Lib.hid q2
        clear q2
        go_wp2_with fail
        (with_reducible refine (CH.out _).mono ?_)
        rintro e w_1 ⟨rfl, rfl⟩
        go_wp2_with fail
        have q2 := Q2.out
        have hv9 : er = 3 := (by rw [HV.out]; unfold ripG; (repeat' split) <;> first | omega | simp_all)
        obtain ⟨rfl, rfl⟩ : R1 = [] ∧ R2 = [] := by have h := HR.out; rw [if_neg (by omega)] at h; simpa using h
        rw [hv9]
        refine bodyPost_ret (v := .tuple #[.slice none 0 0, .slice none 0 0, .int .i64 3]) (by simp [results, Try.results28, go_sem, World.cell?_alloc_past, c0_0, c1_0, c2_0, ne_c0_c1, ne_c0_c2, ne_c1_c0, ne_c1_c2, ne_c2_c0, ne_c2_c1, rc0, rc0a, rc0b, rc0c, rc0n, rc1, rc1a, rc1b, rc1c, rc1n, rc2, rc2a, rc2b, rc2c, rc2n]; try rfl) rfl (RetRip.nil ?_)
        exact (by repeat (first | with_reducible exact X1.out | with_reducible refine Ext.drew ?_ | with_reducible refine Ext.drewN ?_ _ | with_reducible refine Ext.alloc ?_ _ | with_reducible refine Ext.setCell ?_ (by first | omega | (simp; done) | (simp; omega)) _))
      · have d2 : decide (u < 1) = false := decide_eq_false q2
        have Q2 := Lib.hid q2
        clear q2
        go_wp2_with fail
        (with_reducible refine (CH.out _).mono ?_)
        rintro e w_1 ⟨rfl, rfl⟩
        by_cases q3 : 1048576 < u
        · have d3 : decide (1048576 < u) = true := decide_eq_true q3
          have Q3 := Lib.hid q3
          clear q3
          go_wp2_with fail
          have q2 := Q2.out
          have q3 := Q3.out
          have hv9 : er = 3 := (by rw [HV.out]; unfold ripG; (repeat' split) <;> first | omega | simp_all)
          obtain ⟨rfl, rfl⟩ : R1 = [] ∧ R2 = [] := by have h := HR.out; rw [if_neg (by omega)] at h; simpa using h
          rw [hv9]
          refine bodyPost_ret (v := .tuple #[.slice none 0 0, .slice none 0 0, .int .i64 3]) (by simp [results, Try.results28, go_sem, World.cell?_alloc_past, c0_0, c1_0, c2_0, ne_c0_c1, ne_c0_c2, ne_c1_c0, ne_c1_c2, ne_c2_c0, ne_c2_c1, rc0, rc0a, rc0b, rc0c, rc0n, rc1, rc1a, rc1b, rc1c, rc1n, rc2, rc2a, rc2b, rc2c, rc2n]; try rfl) rfl (RetRip.nil ?_)
          exact (by repeat (first | with_reducible exact X1.out | with_reducible refine Ext.drew ?_ | with_reducible refine Ext.drewN ?_ _ | with_reducible refine Ext.alloc ?_ _ | with_reducible refine Ext.setCell ?_ (by first | omega | (simp; done) | (simp; omega)) _))
        · have d3 : decide (1048576 < u) = false := decide_eq_false q3
          have Q3 := Lib.hid q3
          clear q3
          go_wp2_with fail
          have q2 := Q2.out
          have q3 := Q3.out
          obtain rfl : er = 0 := (by rw [HV.out]; unfold ripG; (repeat' split) <;> first | omega | simp_all)
          obtain ⟨h1, h2⟩ : R1 = l.filter (isRip h u) ∧ R2 = l.filter (fun x => !isRip h u x) := by have h := HR.out; rw [if_pos rfl] at h; simpa using h
          have he0 : (chkQ l).1 = 0 := by rw [HE1.out]; omega
          obtain ⟨hm0, hm1, hm2, hm3⟩ := HM.out rfl
          have hH : ∀ i : Nat, i < n → ∃ xo xv xs xp xf xc xi xb, l[i]? = some (xo, xv, xs, xp, xf, xc, xi, xb) ∧ IntKind.i64.wrap (xc + u) = xc + u ∧ decide (m ≤ i) = decide (h < xc + u) := by
            intro i hi
            obtain ⟨⟨xo, xv, xs, xp, xf, xc, xi, xb⟩, hk⟩ : ∃ x, l[i]? = some x := ⟨_, List.getElem?_eq_getElem (show i < l.length from by have := HLL.out; omega)⟩
            obtain ⟨b, hb9⟩ := chkQ_may he0 _ (List.mem_of_getElem? hk)
            obtain ⟨_, _, _, k1, k2, _⟩ := oneQ_cases hb9
            have k3 := hm3 i _ hk
            change 1 ≤ xc at k1
            change xc ≤ 4294967296 at k2
            unfold isRip at k3
            change decide (xc + u ≤ h) = decide (i < m) at k3
            refine ⟨xo, xv, xs, xp, xf, xc, xi, xb, hk, IntWalk.i64_in _ (by omega), ?_⟩
            rw [decide_eq_decide] at k3 ⊢
            omega
          have hmi : (m : Int) ≤ n := by omega
          have hmc : (m : Int) ≤ c := by omega
          have HH := Lib.hid hH
          have HM0 := Lib.hid (And.intro hm1 hm2)
          have HE := Lib.hid (And.intro h1 h2)
          clear hH hm1 hm2 hm3 he0 h1 h2 HM HR HV CC CH d2 d3 q1 q1b q2 q3 Q2 Q3
          (with_reducible refine (sortSearch_at 57 #[] #[.pointer (some ⟨w.heap.size + 1, 0, none⟩), .pointer (some ⟨w.heap.size, 0, none⟩), .pointer (some ⟨w.heap.size + 1 + 1, 0, none⟩)] n m _ eg (by omega) hm0 (fun wx i hx hi => by obtain ⟨xo, xv, xs, xp, xf, xc, xi, xb, k1, k2, k3⟩ := HH.out i hi; have hq := qRipe1_any A n c i l h u _ xo xv xs xp xf xc xi xb _ _ _ _ wx ((show Sl _ 8 A n c (l.flatMap entC) from (HS.out.ext (by repeat (first | with_reducible exact Ext.refl _ | with_reducible refine Ext.drew ?_ | with_reducible refine Ext.drewN ?_ _ | with_reducible refine Ext.alloc ?_ _ | with_reducible refine Ext.setCell ?_ (by first | omega | (simp; done) | (simp; omega)) _)))).ext hx) k1 k2 k3 (hx.has c1_0) (hx.has c0_0) (hx.has c2_0); simpa using hq)).mono ?_)
          rintro e w2 ⟨rfl, hx2⟩
          replace c0_0 : w2.cell? ⟨w.heap.size, 0, none⟩ = some (.slice A n c) := hx2.has (by first | exact c0_0 | (simp [go_sem, World.cell?_alloc_past, c0_0, c1_0, c2_0, ne_c0_c1, ne_c0_c2, ne_c1_c0, ne_c1_c2, ne_c2_c0, ne_c2_c1, rc0, rc0a, rc0b, rc0c, rc0n, rc1, rc1a, rc1b, rc1c, rc1n, rc2, rc2a, rc2b, rc2c, rc2n]; done))
          replace c1_0 : w2.cell? ⟨w.heap.size + 1, 0, none⟩ = some (.int .i64 h) := hx2.has (by first | exact c1_0 | (simp [go_sem, World.cell?_alloc_past, c0_0, c1_0, c2_0, ne_c0_c1, ne_c0_c2, ne_c1_c0, ne_c1_c2, ne_c2_c0, ne_c2_c1, rc0, rc0a, rc0b, rc0c, rc0n, rc1, rc1a, rc1b, rc1c, rc1n, rc2, rc2a, rc2b, rc2c, rc2n]; done))
          replace c2_0 : w2.cell? ⟨w.heap.size + 1 + 1, 0, none⟩ = some (.int .i64 u) := hx2.has (by first | exact c2_0 | (simp [go_sem, World.cell?_alloc_past, c0_0, c1_0, c2_0, ne_c0_c1, ne_c0_c2, ne_c1_c0, ne_c1_c2, ne_c2_c0, ne_c2_c1, rc0, rc0a, rc0b, rc0c, rc0n, rc1, rc1a, rc1b, rc1c, rc1n, rc2, rc2a, rc2b, rc2c, rc2n]; done))
          have z2 := hx2.size
          try simp at z2
          replace rc0 : w.heap.size < w2.heap.size := by omega
          replace rc0a : w.heap.size < w2.heap.size + 1 := by omega
          replace rc0b : w.heap.size < w2.heap.size + 1 + 1 := by omega
          replace rc0c : w.heap.size < w2.heap.size + 1 + 1 + 1 := by omega
          replace rc0n : ¬ w.heap.size = w2.heap.size := by omega
          replace rc1 : w.heap.size + 1 < w2.heap.size := by omega
          replace rc1a : w.heap.size + 1 < w2.heap.size + 1 := by omega
          replace rc1b : w.heap.size + 1 < w2.heap.size + 1 + 1 := by omega
          replace rc1c : w.heap.size + 1 < w2.heap.size + 1 + 1 + 1 := by omega
          replace rc1n : ¬ w.heap.size + 1 = w2.heap.size := by omega
          replace rc2 : w.heap.size + 1 + 1 < w2.heap.size := by omega
          replace rc2a : w.heap.size + 1 + 1 < w2.heap.size + 1 := by omega
          replace rc2b : w.heap.size + 1 + 1 < w2.heap.size + 1 + 1 := by omega
          replace rc2c : w.heap.size + 1 + 1 < w2.heap.size + 1 + 1 + 1 := by omega
          replace rc2n : ¬ w.heap.size + 1 + 1 = w2.heap.size := by omega
          replace HS := Lib.hid (HS.out.ext (Ext.trans (by repeat (first | with_reducible exact Ext.refl _ | with_reducible refine Ext.drew ?_ | with_reducible refine Ext.drewN ?_ _ | with_reducible refine Ext.alloc ?_ _ | with_reducible refine Ext.setCell ?_ (by first | omega | (simp; done) | (simp; omega)) _)) hx2))
          have X2 : Hid (Ext w w2) := Lib.hid (Ext.trans (by repeat (first | with_reducible exact X1.out | with_reducible refine Ext.drew ?_ | with_reducible refine Ext.drewN ?_ _ | with_reducible refine Ext.alloc ?_ _ | with_reducible refine Ext.setCell ?_ (by first | omega | (simp; done) | (simp; omega)) _)) hx2)
          clear X1 hx2 z2
          go_wp2_with fail
          have hlw := Ext.size X2.out
          (with_reducible refine (eClone_n A n c l _ (HS.out.ext (by repeat (first | with_reducible exact Ext.refl _ | with_reducible refine Ext.drew ?_ | with_reducible refine Ext.drewN ?_ _ | with_reducible refine Ext.alloc ?_ _ | with_reducible refine Ext.setCell ?_ (by first | omega | (simp; done) | (simp; omega)) _))) (by omega) HN.out).mono ?_)
          rintro e w3 ⟨A5, c5, rfl, hA5, hO5, hx3⟩
          replace c0_0 : w3.cell? ⟨w.heap.size, 0, none⟩ = some (.slice A n c) := hx3.has (by first | exact c0_0 | (simp [go_sem, World.cell?_alloc_past, c0_0, c1_0, c2_0, ne_c0_c1, ne_c0_c2, ne_c1_c0, ne_c1_c2, ne_c2_c0, ne_c2_c1, rc0, rc0a, rc0b, rc0c, rc0n, rc1, rc1a, rc1b, rc1c, rc1n, rc2, rc2a, rc2b, rc2c, rc2n]; done))
          replace c1_0 : w3.cell? ⟨w.heap.size + 1, 0, none⟩ = some (.int .i64 h) := hx3.has (by first | exact c1_0 | (simp [go_sem, World.cell?_alloc_past, c0_0, c1_0, c2_0, ne_c0_c1, ne_c0_c2, ne_c1_c0, ne_c1_c2, ne_c2_c0, ne_c2_c1, rc0, rc0a, rc0b, rc0c, rc0n, rc1, rc1a, rc1b, rc1c, rc1n, rc2, rc2a, rc2b, rc2c, rc2n]; done))
          replace c2_0 : w3.cell? ⟨w.heap.size + 1 + 1, 0, none⟩ = some (.int .i64 u) := hx3.has (by first | exact c2_0 | (simp [go_sem, World.cell?_alloc_past, c0_0, c1_0, c2_0, ne_c0_c1, ne_c0_c2, ne_c1_c0, ne_c1_c2, ne_c2_c0, ne_c2_c1, rc0, rc0a, rc0b, rc0c, rc0n, rc1, rc1a, rc1b, rc1c, rc1n, rc2, rc2a, rc2b, rc2c, rc2n]; done))
          have z3 := hx3.size
          try simp at z3
          replace rc0 : w.heap.size < w3.heap.size := by omega
          replace rc0a : w.heap.size < w3.heap.size + 1 := by omega
          replace rc0b : w.heap.size < w3.heap.size + 1 + 1 := by omega
          replace rc0c : w.heap.size < w3.heap.size + 1 + 1 + 1 := by omega
          replace rc0n : ¬ w.heap.size = w3.heap.size := by omega
          replace rc1 : w.heap.size + 1 < w3.heap.size := by omega
          replace rc1a : w.heap.size + 1 < w3.heap.size + 1 := by omega
          replace rc1b : w.heap.size + 1 < w3.heap.size + 1 + 1 := by omega
          replace rc1c : w.heap.size + 1 < w3.heap.size + 1 + 1 + 1 := by omega
          replace rc1n : ¬ w.heap.size + 1 = w3.heap.size := by omega
          replace rc2 : w.heap.size + 1 + 1 < w3.heap.size := by omega
          replace rc2a : w.heap.size + 1 + 1 < w3.heap.size + 1 := by omega
          replace rc2b : w.heap.size + 1 + 1 < w3.heap.size + 1 + 1 := by omega
          replace rc2c : w.heap.size + 1 + 1 < w3.heap.size + 1 + 1 + 1 := by omega
          replace rc2n : ¬ w.heap.size + 1 + 1 = w3.heap.size := by omega
          replace HS := Lib.hid (HS.out.ext (Ext.trans (by repeat (first | with_reducible exact Ext.refl _ | with_reducible refine Ext.drew ?_ | with_reducible refine Ext.drewN ?_ _ | with_reducible refine Ext.alloc ?_ _ | with_reducible refine Ext.setCell ?_ (by first | omega | (simp; done) | (simp; omega)) _)) hx3))
          have X3 : Hid (Ext w w3) := Lib.hid (Ext.trans (by repeat (first | with_reducible exact X2.out | with_reducible refine Ext.drew ?_ | with_reducible refine Ext.drewN ?_ _ | with_reducible refine Ext.alloc ?_ _ | with_reducible refine Ext.setCell ?_ (by first | omega | (simp; done) | (simp; omega)) _)) hx3)
          have HO := Lib.hid (OwnEnt.lower hO5 (show w.heap.size ≤ _ from by first | exact hlw | (simp; omega)))
          clear X2 hx3 z3
          clear hA5 hO5
          have hcap5 := (OwnEnt.sl HO.out).2.1
          have hmc5 : (m : Int) ≤ c5 := by omega
          have E := Lib.hid (show RetRip R1 R2 0 w (.returned (.tuple #[.slice A5 m m, .slice (if c5 = m then A5 else A5.map (·.add (m * 8))) (n - m) (c5 - m), .int .i64 0])) w3.drew from by rw [HE.out.1, HE.out.2, HM0.out.1, HM0.out.2]; exact RetRip.mk (base := 0) (OwnEnt.ext (HO.out.ext (by repeat (first | with_reducible exact Ext.refl _ | with_reducible refine Ext.drew ?_ | with_reducible refine Ext.drewN ?_ _ | with_reducible refine Ext.alloc ?_ _ | with_reducible refine Ext.setCell ?_ (by first | omega | (simp; done) | (simp; omega)) _))) (Ext.drew (Ext.refl _))) (by omega) HLL.out (by omega) (Ext.drew (by repeat (first | with_reducible exact X3.out | with_reducible refine Ext.drew ?_ | with_reducible refine Ext.drewN ?_ _ | with_reducible refine Ext.alloc ?_ _ | with_reducible refine Ext.setCell ?_ (by first | omega | (simp; done) | (simp; omega)) _))))
          go_wp2_with fail
          refine wp_region_held_drew (S := fun _ => True) (by kernel_rfl) trivial (fun hHeld => ?_)
          (refine' take_in 0 rfl (by kernel_rfl) (by kernel_rfl) (by kernel_rfl) (fun _ _ _ h => h) (by rfl) (by assumption) ?_ ?_; rotate_left; focus (intro w hSw; (try dsimp only at hSw); go_simp; try with_reducible rfl)); try simp only [Act.put, List.setIfInBounds_toArray, List.set_cons_zero, List.set_cons_succ]
          (refine' take_in 1 rfl (by kernel_rfl) (by kernel_rfl) (by kernel_rfl) (fun _ _ _ h => h) (by rfl) (by assumption) ?_ ?_; rotate_left; focus (intro w hSw; (try dsimp only at hSw); go_simp; try with_reducible rfl)); try simp only [Act.put, List.setIfInBounds_toArray, List.set_cons_zero, List.set_cons_succ]
          (refine' take_in 2 rfl (by kernel_rfl) (by kernel_rfl) (by kernel_rfl) (fun _ _ _ h => h) (by rfl) (by assumption) ?_ ?_; rotate_left; focus (intro w hSw; (try dsimp only at hSw); go_simp; try with_reducible rfl)); try simp only [Act.put, List.setIfInBounds_toArray, List.set_cons_zero, List.set_cons_succ]
          (refine' take_in 3 rfl (by kernel_rfl) (by kernel_rfl) (by kernel_rfl) (fun _ _ _ h => h) (by rfl) (by assumption) ?_ ?_; rotate_left; focus (intro w hSw; (try dsimp only at hSw); go_simp; try with_reducible rfl)); try simp only [Act.put, List.setIfInBounds_toArray, List.set_cons_zero, List.set_cons_succ]
          (refine' take_in 4 rfl (by kernel_rfl) (by kernel_rfl) (by kernel_rfl) (fun _ _ _ h => h) (by rfl) (by assumption) ?_ ?_; rotate_left; focus (intro w hSw; (try dsimp only at hSw); go_simp; try with_reducible rfl)); try simp only [Act.put, List.setIfInBounds_toArray, List.set_cons_zero, List.set_cons_succ]
          (refine' take_in 5 rfl (by kernel_rfl) (by kernel_rfl) (by kernel_rfl) (fun _ _ _ h => h) (by rfl) (by assumption) ?_ ?_; rotate_left; focus (intro w hSw; (try dsimp only at hSw); go_simp; try with_reducible rfl)); try simp only [Act.put, List.setIfInBounds_toArray, List.set_cons_zero, List.set_cons_succ]
          (refine' take_in 6 rfl (by kernel_rfl) (by kernel_rfl) (by kernel_rfl) (fun _ _ _ h => h) (by rfl) (by assumption) ?_ ?_; rotate_left; focus (intro w hSw; (try dsimp only at hSw); go_simp; try with_reducible rfl)); try simp only [Act.put, List.setIfInBounds_toArray, List.set_cons_zero, List.set_cons_succ]
          (refine' take_in 7 rfl (by kernel_rfl) (by kernel_rfl) (by kernel_rfl) (fun _ _ _ h => h) (by rfl) (by assumption) ?_ ?_; rotate_left; focus (intro w hSw; (try dsimp only at hSw); go_simp; try with_reducible rfl)); try simp only [Act.put, List.setIfInBounds_toArray, List.set_cons_zero, List.set_cons_succ]
          (refine' take_in 8 rfl (by kernel_rfl) (by kernel_rfl) (by kernel_rfl) (fun _ _ _ h => h) (by rfl) (by assumption) ?_ ?_; rotate_left; focus (intro w hSw; (try dsimp only at hSw); go_simp; try with_reducible rfl)); try simp only [Act.put, List.setIfInBounds_toArray, List.set_cons_zero, List.set_cons_succ]
          (refine' take_in 9 rfl (by kernel_rfl) (by kernel_rfl) (by kernel_rfl) (fun _ _ _ h => h) (by rfl) (by assumption) ?_ ?_; rotate_left; focus (intro w hSw; (try dsimp only at hSw); go_simp; try with_reducible rfl)); try simp only [Act.put, List.setIfInBounds_toArray, List.set_cons_zero, List.set_cons_succ]
          refine wpAnyH_done (by kernel_rfl) ?_ _
          go_wp2_with fail
          · have E2 := E.out
            rw [if_pos h, h, Nat.sub_self] at E2
            refine bodyPost_ret (v := .tuple #[.slice A5 m m, .slice A5 (n - m) 0, .int .i64 0]) (by simp [results, Try.results28]; try rfl) rfl ?_
            exact E2
          · have E2 := E.out
            rw [if_neg h] at E2
            refine bodyPost_ret (v := .tuple #[.slice A5 m m, .slice (A5.map (·.add (m * 8))) (n - m) (c5 - m), .int .i64 0]) (by simp [results, Try.results28]; try rfl) rfl ?_
            exact E2
theorem qripe_ev (A : Option Addr) (n c : Nat) (l R1 R2 : List (Int × Int × Int × Int × Int × Int × Int × Int)) (h u er : Int) (w : World) (hs : Sl w 8 A n c (l.flatMap entC)) (hn : n ≤ 100000) (hf : ∀ x ∈ l, FitsQ x) (hnil : A = none → c = 0) (hv : (R1, R2, er) = ripQ l h u) :
    Calls Try.prog 28 #[.slice A n c, .int .i64 h, .int .i64 u] w (RetRip R1 R2 er w) := by
  have hl := hs.rlen entC_len (by decide)
  obtain ⟨m, hm⟩ : ∃ m, er = 0 → m ≤ n ∧ l.filter (isRip h u) = l.take m ∧ l.filter (fun x => !isRip h u x) = l.drop m ∧ ∀ (k : Nat) x, l[k]? = some x → isRip h u x = decide (k < m) := by
    by_cases h0 : er = 0
    · have hc : (chkQ l).1 = 0 := by
        unfold ripQ at hv
        by_cases h1 : ripQE l h u = 0
        · unfold ripQE ripG at h1
          by_cases h2 : (chkQ l).1 = 0
          · exact h2
          · rw [if_pos h2] at h1; exact absurd h1 h2
        · rw [if_neg h1] at hv
          have h3 : er = ripQE l h u := by injection hv with _ h4; injection h4
          omega
      obtain ⟨m, h1, h2, h3, h4⟩ := splitQ_mono (isRip h u) l ((chkQ_sorted hc).imp (fun {a b} hab hb => by unfold isRip at hb ⊢; rw [decide_eq_true_eq] at hb ⊢; omega))
      exact ⟨m, fun _ => ⟨by omega, h2, h3, h4⟩⟩
    · exact ⟨0, fun h => absurd h h0⟩
  have hv2 : er = ripQE l h u ∧ (R1, R2) = if er = 0 then (l.filter (isRip h u), l.filter (fun x => !isRip h u x)) else ([], []) := by
    unfold ripQ at hv
    by_cases h1 : ripQE l h u = 0
    · rw [if_pos h1] at hv
      injection hv with h2 h3
      injection h3 with h3 h4
      exact ⟨by omega, by rw [if_pos h4, h2, h3]⟩
    · rw [if_neg h1] at hv
      injection hv with h2 h3
      injection h3 with h3 h4
      exact ⟨h4, by rw [if_neg (by omega), h2, h3]⟩
  exact qripe_at A n c l h u (chkQ l).1 (chkQ l).2 er _ m w hs hn hf hnil rfl rfl hv2.1 R1 R2 hv2.2 hm
end
section
open Go.RowKit Go.ChangeShapes Go.WideShapes
def bs_ (L : List Nat) : List Int := L.map fun (x : Nat) => (x : Int)
theorem bs_inj {L M : List Nat} (hL : Byt L) (hM : Byt M) (h : strOfNums (bs_ L) = strOfNums (bs_ M)) : L = M := by
  have h1 := congrArg (fun s : ByteArray => s.data.toList.map fun u => u.toNat) h
  simp only [strOfNums_data, bs_, List.map_map] at h1
  have e : ∀ K : List Nat, Byt K → K.map ((fun u : UInt8 => u.toNat) ∘ (fun n : Int => UInt8.ofNat n.toNat) ∘ fun (x : Nat) => (x : Int)) = K := by
    intro K hK
    induction K with
    | nil => rfl
    | cons x K ih =>
      have hx := hK x (List.mem_cons_self ..)
      rw [List.map_cons, ih fun y hy => hK y (List.mem_cons_of_mem _ hy)]
      simp
      omega
  rw [e L hL, e M hM] at h1
  exact h1
theorem conv_by {A : Option Addr} {n c : Nat} {L : List Nat} {w : World} (h : Sl w 1 A n c (by_ L)) :
    (convert 56 9 (.slice A n c)).run Try.prog w = .ok (.string (strOfNums (bs_ L))) w := by
  have hl : L.length = n := by simpa [by_] using h.len
  cases n with
  | zero =>
    have hL : L = [] := List.eq_nil_of_length_eq_zero hl
    subst hL
    cases A with
    | none =>
      rw [run_convert_bytes_nil w 56 5 (by kernel_rfl) (by kernel_rfl) 0 c 9 (by kernel_rfl)]
      rfl
    | some a =>
      rw [run_convert_bytes_string w 56 9 5 (some a) 0 c (by kernel_rfl) (by kernel_rfl) (by kernel_rfl), run_bytesToString w a 0 c [] (by
        have := run_loadCells_list (P := Try.prog) w a [] (fun j v hj => by simp at hj)
        simpa using this)]
      rfl
  | succ m =>
    obtain ⟨b, o, rfl, hb, hc⟩ := h.at_ (Nat.succ_pos m)
    refine run_convert_bytes_arg w 56 5 (by kernel_rfl) (by kernel_rfl) b o (m + 1) c (bs_ L) (by simpa [bs_] using hl) (fun i hi => ?_) 9 (by kernel_rfl)
    refine hc i _ ?_
    have hi' : i < L.length := by omega
    simp [by_, bs_, List.getD, hi']
theorem kSameBytes_any (A B : Option Addr) (n c m d : Nat) (L M : List Nat) (hL : Byt L) (hM : Byt M) (w : World) (h1 : Sl w 1 A n c (by_ L)) (h2 : Sl w 1 B m d (by_ M)) :
    Calls Try.prog 39 #[.slice A n c, .slice B m d] w fun r w' => r = .returned (.bool (decide (L = M))) ∧ w = w' := by
  have c1 := conv_by h1
  have c2 := conv_by h2
  have he : ((strOfNums (bs_ L)).toList == (strOfNums (bs_ M)).toList) = decide (L = M) := by
    rw [ByteArray.toList_eq, ByteArray.toList_eq]
    by_cases h : L = M
    · subst h
      simp
    · rw [decide_eq_false h]
      exact beq_false_of_ne fun e => h (bs_inj hL hM (by
        have := congrArg List.toArray e
        exact ByteArray.ext (by simpa using e)))
  go_enter Try.func39, Try.ntmps39
  go_wp2
  go_ret
  exact ⟨by simp [he], rfl⟩
theorem byt_putL : ∀ (b n : Nat), n ≤ b → Byt (putL n) := by
  intro b
  induction b with
  | zero => intro n hn; rw [putL_lt (by omega)]; intro x hx; simp at hx; omega
  | succ b ih =>
    intro n hn
    by_cases h : n < 128
    · rw [putL_lt h]; intro x hx; simp at hx; omega
    · rw [putL_ge h]
      intro x hx
      rcases List.mem_cons.1 hx with rfl | hx
      · omega
      · exact ih (n / 128) (by omega) x hx
theorem kSameBytes_eq (A B : Option Addr) (n c m d : Nat) (L : List Nat) (hL : Byt L) (w : World) (h1 : Sl w 1 A n c (by_ L)) (h2 : Sl w 1 B m d (by_ L)) :
    Calls Try.prog 39 #[.slice A n c, .slice B m d] w fun r w' => r = .returned (.bool true) ∧ w = w' := by
  refine (kSameBytes_any A B n c m d L L hL hL w h1 h2).mono ?_
  rintro r w' ⟨rfl, rfl⟩
  exact ⟨by simp, rfl⟩
/-- bytes that came in -/
theorem open_bytes {H : Type} {enc : TypeId × Value → H} {w : World} {base : Nat} {spare : Nat → Bool} {held : Bool} {n c : Nat} {A : Option Addr} {d : DataW H} {p : List MemPlace}
    (h : DataW.Trod enc Try.prog w base spare held 56 (.slice A n c) d p) : ∃ M : List Nat, n = M.length ∧ Sl w 1 A M.length c (by_ M) ∧ Byt M ∧ (A = none → c = 0) := by
  have hlt : ∀ x ∈ p, x.block < w.heap.size := by obtain ⟨m, hm⟩ := h; exact DataW.trod_lt m _ _ _ hm
  obtain ⟨l, hs, hf⟩ := open_sl Try.underlying56 Try.underlying5 (by kernel_rfl) h hlt
  have hl := hs.ilen
  have hb : ∀ x ∈ l, 0 ≤ x ∧ x < 256 := fun x hx => by
    have := hf x hx
    unfold Fits at this
    have := bounds_u8 (n := x) this
    omega
  have e : by_ (l.map Int.toNat) = iv .u8 l := by
    unfold by_ iv
    rw [List.map_map]
    apply List.map_congr_left
    intro x hx
    have := hb x hx
    simp only [Function.comp]
    rw [Int.toNat_of_nonneg this.1]
  refine ⟨l.map Int.toNat, by simpa using hl.symm, ?_, ?_, ?_⟩
  · rw [e, List.length_map, hl]; exact hs
  · intro x hx
    obtain ⟨y, hy, rfl⟩ := List.mem_map.1 hx
    have := hb y hy
    omega
  · intro hA
    subst hA
    obtain ⟨fuel, hf⟩ := h
    rcases Go.Deep.open_slice Try.underlying56 (show DataW.trod enc Try.prog w base spare held fuel 56 [.slice none n c] = some _ by simpa [Value.cells] using hf) with ⟨h0, _⟩ | ⟨a, len, cap, m, n', D, Pl, hcs, _⟩
    · simp at h0; exact h0.2
    · simp at hcs
end
section
open Go.RowKit
/-- a row of bytes of one's own -/
def OwnN (w : World) (base : Nat) (v : Value) (n : Nat) (L : List Nat) : Prop := w.ownsRow base 5 1 v n (by_ L)
theorem OwnN.ext {w w' : World} {base n : Nat} {v : Value} {L : List Nat} (h : OwnN w base v n L) (hx : Ext w w') : OwnN w' base v n L := own_keep h hx
theorem OwnN.sl {w : World} {base n c : Nat} {A : Option Addr} {L : List Nat} (h : OwnN w base (.slice A n c) n L) : Sl w 1 A n c (by_ L) := Sl.own h
theorem own_out {w : World} {L : List Nat} {E : Int} {r : Ending} {w' : World} (h : ByErr L E w r w') : ∃ A c, r = .returned (.tuple #[.slice A L.length c, .int .i64 E]) ∧ (A = none → c = 0) ∧ OwnN w' w.heap.size (.slice A L.length c) L.length L ∧ Ext w w' := by
  obtain ⟨v, rfl, hown, hx⟩ := h
  obtain ⟨A, c, rfl, h1, h2⟩ := own_parts2 hown
  exact ⟨A, c, rfl, h1, hown, hx⟩
end
section
open Go.RowKit Go.ChangeShapes Go.WideShapes Go.Deep Go.Joins
theorem by_newQ (W : World) (L : List Nat) (n : Nat) (A : Option Addr) (cs : Array Value) (hc : cs.toList = by_ L) (e : A = some ⟨W.heap.size, 0, none⟩) (hl : L.length = n) (hn : n ≤ 1000000) : Sl (W.alloc (.cells cs 5)) 1 A n n (by_ L) := by
  subst e
  rw [← hc]
  have h0 : cs.size = n := by rw [← hl, ← by_len L, ← hc]; simp
  exact sl_new W 5 1 cs n (by omega) hn
theorem byt_ofQ {L : List Nat} (h : L.all (fun x => decide (x < 256)) = true) : Byt L := by
  intro x hx
  have h1 := List.all_eq_true.1 h x hx
  simpa using h1
theorem qRead_e (A : Option Addr) (c : Nat) (L : List Nat) (R : List (Int × Int × Int × Int × Int × Int × Int × Int)) (e a : Int) (hB : Byt L) (hL : L.length < 1099511627776) (hnil : A = none → c = 0) (w : World) (hs : Sl w 1 A L.length c (by_ L)) (hF : (R, e, a) = queRV L) :
    Calls Try.prog 38 #[.slice A L.length c] w fun r w' => ∃ A c, r = .returned (.tuple #[.slice A R.length c, .agg #[.int .i64 e, .int .i64 a]]) ∧ (A = none → c = 0) ∧ OwnEnt w' w.heap.size (.slice A R.length c) R.length R ∧ Ext w w' := by
  have h := qRead_any A c L hB hL hnil w hs
  rw [← hF] at h
  exact h
theorem qRead_en (A : Option Addr) (n c : Nat) (L : List Nat) (R : List (Int × Int × Int × Int × Int × Int × Int × Int)) (e a : Int) (m : Nat) (w : World) (hB : Byt L) (hs : Sl w 1 A n c (by_ L)) (hn : L.length = n) (hL : L.length < 1000000) (hnil : A = none → c = 0) (hF : (R, e, a) = queRV L) (hm : R.length = m) :
    Calls Try.prog 38 #[.slice A n c] w fun r w' => ∃ A c, r = .returned (.tuple #[.slice A m c, .agg #[.int .i64 e, .int .i64 a]]) ∧ (A = none → c = 0) ∧ OwnEnt w' w.heap.size (.slice A m c) m R ∧ Ext w w' := by
  subst hn; subst hm
  exact qRead_e A c L R e a hB (by omega) hnil w hs hF
theorem qBytes_e (A : Option Addr) (c : Nat) (l : List (Int × Int × Int × Int × Int × Int × Int × Int)) (BL : List Nat) (e : Int) (w : World) (hs : Sl w 8 A l.length c (l.flatMap entC)) (hw : ∀ x ∈ l, FitsQ x) (hl : l.length ≤ 100) (hF : (BL, e) = (queB l, (chkQ l).1)) :
    Calls Try.prog 37 #[.slice A l.length c] w fun r w' => ∃ A c, r = .returned (.tuple #[.slice A BL.length c, .int .i64 e]) ∧ (A = none → c = 0) ∧ OwnN w' w.heap.size (.slice A BL.length c) BL.length BL ∧ Ext w w' := by
  obtain ⟨h1, h2⟩ := Prod.mk.inj hF
  rw [h1, h2]
  exact (qBytes_any A c l w hs hw hl).mono fun r w' h => own_out h
theorem qBytes_en (A : Option Addr) (n c : Nat) (l : List (Int × Int × Int × Int × Int × Int × Int × Int)) (BL : List Nat) (e : Int) (m : Nat) (w : World) (hs : Sl w 8 A n c (l.flatMap entC)) (hw : ∀ x ∈ l, FitsQ x) (hl : l.length ≤ 100) (hF : (BL, e) = (queB l, (chkQ l).1)) (hm : BL.length = m) :
    Calls Try.prog 37 #[.slice A n c] w fun r w' => ∃ A c, r = .returned (.tuple #[.slice A m c, .int .i64 e]) ∧ (A = none → c = 0) ∧ OwnN w' w.heap.size (.slice A m c) m BL ∧ Ext w w' := by
  have hq := hs.rlen entC_len (by decide)
  subst hq; subst hm
  exact qBytes_e A c l BL e w hs hw hl hF
theorem que_one : ([1, 0, 2, 5, 0, 0, 9, 10, 10], (0 : Int)) = (queB [(0, 2, 5, -1, 0, 9, 10, 10)], (chkQ [(0, 2, 5, -1, 0, 9, 10, 10)]).1) := by
  have h0 : (chkQ [(0, 2, 5, -1, 0, 9, 10, 10)]).1 = 0 := by decide
  unfold queB
  rw [h0, if_pos rfl]
  simp [entB, entN, nuB, putL_lt]
theorem qcut_en (A : Option Addr) (n c : Nat) (l R : List (Int × Int × Int × Int × Int × Int × Int × Int)) (S : List (Int × Int)) (v h p U er : Int) (nR nS : Nat) (w : World) (hs : Sl w 8 A n c (l.flatMap entC)) (hn : n ≤ 100000) (hf : ∀ x ∈ l, FitsQ x) (hnil : A = none → c = 0) (hh : h ≤ 9223372036854775807) (hp : Word p) (hv : (R, S, U, er) = cutV l v h p) (h1 : R.length = nR) (h2 : S.length = nS) :
    Calls Try.prog 18 #[.slice A n c, .int .i64 v, .int .i64 h, .int .u64 p] w fun e w' => ∃ A1 c1 A2 c2, e = .returned (.tuple #[.slice A1 nR c1, .slice A2 nS c2, .int .u64 U, .int .i64 er]) ∧ OwnEnt w' w.heap.size (.slice A1 nR c1) nR R ∧ Ext w w' := by
  subst h1; subst h2
  refine (qcut_ev A n c l R S v h p U er w hs hn hf hnil hh hp hv).mono ?_
  rintro e w' ⟨A1, c1, A2, c2, h1, _, _, h2, _, _, hx⟩
  exact ⟨A1, c1, A2, c2, h1, h2, hx⟩
theorem qof_en (A : Option Addr) (n c : Nat) (l R : List (Int × Int × Int × Int × Int × Int × Int × Int)) (ow : Int) (m : Nat) (w : World) (h : Sl w 8 A n c (l.flatMap entC)) (hn : n ≤ 100000) (hf : ∀ x ∈ l, FitsQ x) (hR : R = ofQ l ow) (hm : R.length = m) :
    Calls Try.prog 22 #[.slice A n c, .int .i64 ow] w fun e w' => ∃ A c, e = .returned (.slice A m c) ∧ Ext w w' := by
  subst hm
  refine (qof_ev A n c l R ow w h hn hf hR).mono ?_
  rintro e w' ⟨A, c, h1, _, _, hx⟩
  exact ⟨A, c, h1, hx⟩
theorem qripe_en (A : Option Addr) (n c : Nat) (l R1 R2 : List (Int × Int × Int × Int × Int × Int × Int × Int)) (h u er : Int) (n1 n2 : Nat) (w : World) (hs : Sl w 8 A n c (l.flatMap entC)) (hn : n ≤ 100000) (hf : ∀ x ∈ l, FitsQ x) (hnil : A = none → c = 0) (hv : (R1, R2, er) = ripQ l h u) (h1 : R1.length = n1) (h2 : R2.length = n2) :
    Calls Try.prog 28 #[.slice A n c, .int .i64 h, .int .i64 u] w fun e w' => ∃ A1 c1 A2 c2, e = .returned (.tuple #[.slice A1 n1 c1, .slice A2 n2 c2, .int .i64 er]) ∧ Ext w w' := by
  subst h1; subst h2
  refine (qripe_ev A n c l R1 R2 h u er w hs hn hf hnil hv).mono ?_
  rintro e w' ⟨A1, c1, A2, c2, h1, _, _, _, hx⟩
  exact ⟨A1, c1, A2, c2, h1, hx⟩
set_option maxRecDepth 100000 in
set_option maxHeartbeats 4000000 in
theorem ripe14_ok (A : Option Addr) (c : Nat) (R1 R2 : List (Int × Int × Int × Int × Int × Int × Int × Int)) (h u : Int) (n1 n2 : Nat) (w : World) (hs : Sl w 8 A 3 c (chapQ.flatMap entC)) (hnil : A = none → c = 0) (hv : (R1, R2, 0) = ripQ chapQ h u) (h1 : R1.length = n1) (h2 : R2.length = n2) (h3 : n1 + n2 = 3) :
    Calls Try.prog 32 #[.slice A 3 c, .int .i64 h, .int .i64 u] w fun e w' => e = .returned (.int .i64 (n1 : Int)) ∧ Ext w w' := by
  have HS := Lib.hid hs
  have HN := Lib.hid hnil
  have HV := Lib.hid hv
  have H1 := Lib.hid h1
  have H2 := Lib.hid h2
  have e3 : IntKind.i64.wrap ((n1 : Int) + (n2 : Int)) = 3 := by rw [IntWalk.i64_in _ (by omega)]; omega
  have e4 : Go.RowKit.wrap64 ((n1 : Int) + (n2 : Int)) = 3 := by rw [← IntWalk.i64_left]; exact e3
  have e5 : (n1 : Int) + (n2 : Int) = 3 := by omega
  clear hs hnil hv h1 h2 h3
  go_enter Try.func32, Try.ntmps32
  go_wp2_with fail
  (with_reducible refine (qripe_en A 3 c chapQ R1 R2 h u 0 n1 n2 _ (HS.out.ext (by repeat (first | with_reducible exact Ext.refl _ | with_reducible refine Ext.drew ?_ | with_reducible refine Ext.drewN ?_ _ | with_reducible refine Ext.alloc ?_ _ | with_reducible refine Ext.setCell ?_ (by first | omega | (simp; done) | (simp; omega)) _))) (by decide) chapQ_fits HN.out HV.out H1.out H2.out).mono ?_)
  rintro e w1 ⟨A1, c1, A2, c2, rfl, hx1⟩
  have z1 := hx1.size
  try simp at z1
  replace HS := Lib.hid (HS.out.ext (Ext.trans (by repeat (first | with_reducible exact Ext.refl _ | with_reducible refine Ext.drew ?_ | with_reducible refine Ext.drewN ?_ _ | with_reducible refine Ext.alloc ?_ _ | with_reducible refine Ext.setCell ?_ (by first | omega | (simp; done) | (simp; omega)) _)) hx1))
  have X1 : Hid (Ext w w1) := Lib.hid (Ext.trans (by repeat (first | with_reducible exact Ext.refl w | with_reducible refine Ext.drew ?_ | with_reducible refine Ext.drewN ?_ _ | with_reducible refine Ext.alloc ?_ _ | with_reducible refine Ext.setCell ?_ (by first | omega | (simp; done) | (simp; omega)) _)) hx1)
  clear hx1 z1
  go_wp2_with fail
  go_ret
  exact ⟨rfl, (by repeat (first | with_reducible exact X1.out | with_reducible refine Ext.drew ?_ | with_reducible refine Ext.drewN ?_ _ | with_reducible refine Ext.alloc ?_ _ | with_reducible refine Ext.setCell ?_ (by first | omega | (simp; done) | (simp; omega)) _))⟩
set_option maxRecDepth 100000 in
set_option maxHeartbeats 4000000 in
theorem ripe14_er (A : Option Addr) (c : Nat) (h u er k : Int) (w : World) (hs : Sl w 8 A 3 c (chapQ.flatMap entC)) (hnil : A = none → c = 0) (hv : ([], [], er) = ripQ chapQ h u) (hne : er ≠ 0) (he : 0 ≤ er) (he2 : er ≤ 1000) (hk : k = -er) :
    Calls Try.prog 32 #[.slice A 3 c, .int .i64 h, .int .i64 u] w fun e w' => e = .returned (.int .i64 k) ∧ Ext w w' := by
  have HS := Lib.hid hs
  have HN := Lib.hid hnil
  have HV := Lib.hid hv
  have HKK := Lib.hid hk
  have e1 : (er != 0) = true := by simpa using hne
  have e2 : IntKind.i64.wrap (-er) = -er := IntWalk.i64_in _ (by omega)
  have e3 : Go.RowKit.wrap64 (-er) = -er := by rw [← IntWalk.i64_left]; exact e2
  clear hs hnil hv hne hk
  go_enter Try.func32, Try.ntmps32
  go_wp2_with fail
  (with_reducible refine (qripe_en A 3 c chapQ [] [] h u er 0 0 _ (HS.out.ext (by repeat (first | with_reducible exact Ext.refl _ | with_reducible refine Ext.drew ?_ | with_reducible refine Ext.drewN ?_ _ | with_reducible refine Ext.alloc ?_ _ | with_reducible refine Ext.setCell ?_ (by first | omega | (simp; done) | (simp; omega)) _))) (by decide) chapQ_fits HN.out HV.out rfl rfl).mono ?_)
  rintro e w1 ⟨A1, c1, A2, c2, rfl, hx1⟩
  have z1 := hx1.size
  try simp at z1
  replace HS := Lib.hid (HS.out.ext (Ext.trans (by repeat (first | with_reducible exact Ext.refl _ | with_reducible refine Ext.drew ?_ | with_reducible refine Ext.drewN ?_ _ | with_reducible refine Ext.alloc ?_ _ | with_reducible refine Ext.setCell ?_ (by first | omega | (simp; done) | (simp; omega)) _)) hx1))
  have X1 : Hid (Ext w w1) := Lib.hid (Ext.trans (by repeat (first | with_reducible exact Ext.refl w | with_reducible refine Ext.drew ?_ | with_reducible refine Ext.drewN ?_ _ | with_reducible refine Ext.alloc ?_ _ | with_reducible refine Ext.setCell ?_ (by first | omega | (simp; done) | (simp; omega)) _)) hx1)
  clear hx1 z1
  go_wp2_with fail
  go_ret
  exact ⟨by rw [HKK.out]; rfl, (by repeat (first | with_reducible exact X1.out | with_reducible refine Ext.drew ?_ | with_reducible refine Ext.drewN ?_ _ | with_reducible refine Ext.alloc ?_ _ | with_reducible refine Ext.setCell ?_ (by first | omega | (simp; done) | (simp; omega)) _))⟩
set_option maxRecDepth 100000 in
set_option maxHeartbeats 4000000 in
theorem adds14_ev (xo xv xs xp xf xc xi xb most er : Int) (R : List (Int × Int × Int × Int × Int × Int × Int × Int)) (w : World) (hx : FitsQ (xo, xv, xs, xp, xf, xc, xi, xb)) (hv : (R, er) = addQ chapQ (xo, xv, xs, xp, xf, xc, xi, xb) most) :
    Calls Try.prog 35 #[.agg #[.int .i64 xo, .int .i64 xv, .int .i64 xs, .int .i64 xp, .int .i64 xf, .int .i64 xc, .int .u64 xi, .int .u64 xb], .int .i64 most] w fun e w' => e = .returned (.int .i64 er) ∧ Ext w w' := by
  have HX : Hid (Word xb) := Lib.hid hx.ba
  have HX2 : Hid (Word xi) := Lib.hid hx.2.2.2.2.2.2.1
  have HV := Lib.hid hv
  clear hx hv
  go_enter Try.func35, Try.ntmps35
  go_wp2_with fail
  refine wp_region_held_drew (S := fun w' => w'.cell? ⟨w.heap.size, 0, none⟩ = some (.int .i64 xo) ∧ w'.cell? ⟨w.heap.size, 1, none⟩ = some (.int .i64 xv) ∧ w'.cell? ⟨w.heap.size, 2, none⟩ = some (.int .i64 xs) ∧ w'.cell? ⟨w.heap.size, 3, none⟩ = some (.int .i64 xp) ∧ w'.cell? ⟨w.heap.size, 4, none⟩ = some (.int .i64 xf) ∧ w'.cell? ⟨w.heap.size, 5, none⟩ = some (.int .i64 xc) ∧ w'.cell? ⟨w.heap.size, 6, none⟩ = some (.int .u64 xi) ∧ w'.cell? ⟨w.heap.size, 7, none⟩ = some (.int .u64 xb)) (by kernel_rfl) (by first | exact ⟨c0_0, c0_1, c0_2, c0_3, c0_4, c0_5, c0_6, c0_7⟩ | (simp [go_sem, World.cell?_alloc_past]; done)) (fun hHeld => ?_)
  (refine' take_in 1 rfl (by kernel_rfl) (by kernel_rfl) (by kernel_rfl) (fun _ _ _ h => h) (by rfl) (by assumption) ?_ ?_; rotate_left; focus (intro w hSw; (try dsimp only at hSw); go_simp; try with_reducible rfl)); try simp only [Act.put, List.setIfInBounds_toArray, List.set_cons_zero, List.set_cons_succ]
  (refine' take_in 2 rfl (by kernel_rfl) (by kernel_rfl) (by kernel_rfl) (fun _ _ _ h => h) (by rfl) (by assumption) ?_ ?_; rotate_left; focus (intro w hSw; (try dsimp only at hSw); go_simp; try with_reducible rfl)); try simp only [Act.put, List.setIfInBounds_toArray, List.set_cons_zero, List.set_cons_succ]
  refine' next_in 0 rfl (by kernel_rfl) (by rfl) (fun K hK => ?_)
  go_simp
  (with_reducible refine (chapter14_any _).mono ?_)
  rintro e w1 ⟨A1, c1, rfl, hn1, hO1, hx1⟩
  have c0_0 : w1.cell? ⟨w.heap.size, 0, none⟩ = some (.int .i64 xo) := hx1.has (by first | fail | (simp [go_sem, World.cell?_alloc_past]; done))
  have c0_1 : w1.cell? ⟨w.heap.size, 1, none⟩ = some (.int .i64 xv) := hx1.has (by first | fail | (simp [go_sem, World.cell?_alloc_past]; done))
  have c0_2 : w1.cell? ⟨w.heap.size, 2, none⟩ = some (.int .i64 xs) := hx1.has (by first | fail | (simp [go_sem, World.cell?_alloc_past]; done))
  have c0_3 : w1.cell? ⟨w.heap.size, 3, none⟩ = some (.int .i64 xp) := hx1.has (by first | fail | (simp [go_sem, World.cell?_alloc_past]; done))
  have c0_4 : w1.cell? ⟨w.heap.size, 4, none⟩ = some (.int .i64 xf) := hx1.has (by first | fail | (simp [go_sem, World.cell?_alloc_past]; done))
  have c0_5 : w1.cell? ⟨w.heap.size, 5, none⟩ = some (.int .i64 xc) := hx1.has (by first | fail | (simp [go_sem, World.cell?_alloc_past]; done))
  have c0_6 : w1.cell? ⟨w.heap.size, 6, none⟩ = some (.int .u64 xi) := hx1.has (by first | fail | (simp [go_sem, World.cell?_alloc_past]; done))
  have c0_7 : w1.cell? ⟨w.heap.size, 7, none⟩ = some (.int .u64 xb) := hx1.has (by first | fail | (simp [go_sem, World.cell?_alloc_past]; done))
  have z1 := hx1.size
  try simp at z1
  have rc0 : w.heap.size < w1.heap.size := by omega
  have rc0a : w.heap.size < w1.heap.size + 1 := by omega
  have rc0b : w.heap.size < w1.heap.size + 1 + 1 := by omega
  have rc0c : w.heap.size < w1.heap.size + 1 + 1 + 1 := by omega
  have rc0n : ¬ w.heap.size = w1.heap.size := by omega
  have X1 : Hid (Ext w w1) := Lib.hid (Ext.trans (by repeat (first | with_reducible exact Ext.refl w | with_reducible refine Ext.drew ?_ | with_reducible refine Ext.drewN ?_ _ | with_reducible refine Ext.alloc ?_ _ | with_reducible refine Ext.setCell ?_ (by first | omega | (simp; done) | (simp; omega)) _)) hx1)
  have HO := Lib.hid hO1
  clear hx1 z1 hO1
  have HN1 := Lib.hid hn1
  clear hn1
  refine hK.out _ _ (by (first | exact ⟨c0_0, c0_1, c0_2, c0_3, c0_4, c0_5, c0_6, c0_7⟩ | (simp [go_sem, World.cell?_alloc_past, c0_0, c0_1, c0_2, c0_3, c0_4, c0_5, c0_6, c0_7, rc0, rc0a, rc0b, rc0c, rc0n]; done))) (fun hHeld => ?_); clear hK K; try simp only [Act.put, List.setIfInBounds_toArray, List.set_cons_zero, List.set_cons_succ]
  refine' next_in 3 rfl (by kernel_rfl) (by rfl) (fun K hK => ?_)
  go_simp
  (with_reducible refine (qadd_ev A1 3 c1 chapQ R xo xv xs xp xf xc xi xb most er _ (HO.out.ext (by repeat (first | with_reducible exact Ext.refl _ | with_reducible refine Ext.drew ?_ | with_reducible refine Ext.drewN ?_ _ | with_reducible refine Ext.alloc ?_ _ | with_reducible refine Ext.setCell ?_ (by first | omega | (simp; done) | (simp; omega)) _))).sl (by decide) chapQ_fits HX.out HX2.out HN1.out HV.out).mono ?_)
  rintro e w2 ⟨A2, c2, rfl, _, _, hx2⟩
  replace c0_0 : w2.cell? ⟨w.heap.size, 0, none⟩ = some (.int .i64 xo) := hx2.has (by first | exact c0_0 | (simp [go_sem, World.cell?_alloc_past, c0_0, c0_1, c0_2, c0_3, c0_4, c0_5, c0_6, c0_7, rc0, rc0a, rc0b, rc0c, rc0n]; done))
  replace c0_1 : w2.cell? ⟨w.heap.size, 1, none⟩ = some (.int .i64 xv) := hx2.has (by first | exact c0_1 | (simp [go_sem, World.cell?_alloc_past, c0_0, c0_1, c0_2, c0_3, c0_4, c0_5, c0_6, c0_7, rc0, rc0a, rc0b, rc0c, rc0n]; done))
  replace c0_2 : w2.cell? ⟨w.heap.size, 2, none⟩ = some (.int .i64 xs) := hx2.has (by first | exact c0_2 | (simp [go_sem, World.cell?_alloc_past, c0_0, c0_1, c0_2, c0_3, c0_4, c0_5, c0_6, c0_7, rc0, rc0a, rc0b, rc0c, rc0n]; done))
  replace c0_3 : w2.cell? ⟨w.heap.size, 3, none⟩ = some (.int .i64 xp) := hx2.has (by first | exact c0_3 | (simp [go_sem, World.cell?_alloc_past, c0_0, c0_1, c0_2, c0_3, c0_4, c0_5, c0_6, c0_7, rc0, rc0a, rc0b, rc0c, rc0n]; done))
  replace c0_4 : w2.cell? ⟨w.heap.size, 4, none⟩ = some (.int .i64 xf) := hx2.has (by first | exact c0_4 | (simp [go_sem, World.cell?_alloc_past, c0_0, c0_1, c0_2, c0_3, c0_4, c0_5, c0_6, c0_7, rc0, rc0a, rc0b, rc0c, rc0n]; done))
  replace c0_5 : w2.cell? ⟨w.heap.size, 5, none⟩ = some (.int .i64 xc) := hx2.has (by first | exact c0_5 | (simp [go_sem, World.cell?_alloc_past, c0_0, c0_1, c0_2, c0_3, c0_4, c0_5, c0_6, c0_7, rc0, rc0a, rc0b, rc0c, rc0n]; done))
  replace c0_6 : w2.cell? ⟨w.heap.size, 6, none⟩ = some (.int .u64 xi) := hx2.has (by first | exact c0_6 | (simp [go_sem, World.cell?_alloc_past, c0_0, c0_1, c0_2, c0_3, c0_4, c0_5, c0_6, c0_7, rc0, rc0a, rc0b, rc0c, rc0n]; done))
  replace c0_7 : w2.cell? ⟨w.heap.size, 7, none⟩ = some (.int .u64 xb) := hx2.has (by first | exact c0_7 | (simp [go_sem, World.cell?_alloc_past, c0_0, c0_1, c0_2, c0_3, c0_4, c0_5, c0_6, c0_7, rc0, rc0a, rc0b, rc0c, rc0n]; done))
  have z2 := hx2.size
  try simp at z2
  replace rc0 : w.heap.size < w2.heap.size := by omega
  replace rc0a : w.heap.size < w2.heap.size + 1 := by omega
  replace rc0b : w.heap.size < w2.heap.size + 1 + 1 := by omega
  replace rc0c : w.heap.size < w2.heap.size + 1 + 1 + 1 := by omega
  replace rc0n : ¬ w.heap.size = w2.heap.size := by omega
  replace HO := Lib.hid (HO.out.ext (Ext.trans (by repeat (first | with_reducible exact Ext.refl _ | with_reducible refine Ext.drew ?_ | with_reducible refine Ext.drewN ?_ _ | with_reducible refine Ext.alloc ?_ _ | with_reducible refine Ext.setCell ?_ (by first | omega | (simp; done) | (simp; omega)) _)) hx2))
  have X2 : Hid (Ext w w2) := Lib.hid (Ext.trans (by repeat (first | with_reducible exact X1.out | with_reducible refine Ext.drew ?_ | with_reducible refine Ext.drewN ?_ _ | with_reducible refine Ext.alloc ?_ _ | with_reducible refine Ext.setCell ?_ (by first | omega | (simp; done) | (simp; omega)) _)) hx2)
  clear X1 hx2 z2
  refine hK.out _ _ (by (first | exact ⟨c0_0, c0_1, c0_2, c0_3, c0_4, c0_5, c0_6, c0_7⟩ | (simp [go_sem, World.cell?_alloc_past, c0_0, c0_1, c0_2, c0_3, c0_4, c0_5, c0_6, c0_7, rc0, rc0a, rc0b, rc0c, rc0n]; done))) (fun hHeld => ?_); clear hK K; try simp only [Act.put, List.setIfInBounds_toArray, List.set_cons_zero, List.set_cons_succ]
  (refine' take_in 4 rfl (by kernel_rfl) (by kernel_rfl) (by kernel_rfl) (fun _ _ _ h => h) (by rfl) (by assumption) ?_ ?_; rotate_left; focus (intro w hSw; (try dsimp only at hSw); go_simp; try with_reducible rfl)); try simp only [Act.put, List.setIfInBounds_toArray, List.set_cons_zero, List.set_cons_succ]
  (refine' take_in 5 rfl (by kernel_rfl) (by kernel_rfl) (by kernel_rfl) (fun _ _ _ h => h) (by rfl) (by assumption) ?_ ?_; rotate_left; focus (intro w hSw; (try dsimp only at hSw); go_simp; try with_reducible rfl)); try simp only [Act.put, List.setIfInBounds_toArray, List.set_cons_zero, List.set_cons_succ]
  (refine' take_in 6 rfl (by kernel_rfl) (by kernel_rfl) (by kernel_rfl) (fun _ _ _ h => h) (by rfl) (by assumption) ?_ ?_; rotate_left; focus (intro w hSw; (try dsimp only at hSw); go_simp; try with_reducible rfl)); try simp only [Act.put, List.setIfInBounds_toArray, List.set_cons_zero, List.set_cons_succ]
  (refine' take_in 7 rfl (by kernel_rfl) (by kernel_rfl) (by kernel_rfl) (fun _ _ _ h => h) (by rfl) (by assumption) ?_ ?_; rotate_left; focus (intro w hSw; (try dsimp only at hSw); go_simp; try with_reducible rfl)); try simp only [Act.put, List.setIfInBounds_toArray, List.set_cons_zero, List.set_cons_succ]
  (refine' take_in 8 rfl (by kernel_rfl) (by kernel_rfl) (by kernel_rfl) (fun _ _ _ h => h) (by rfl) (by assumption) ?_ ?_; rotate_left; focus (intro w hSw; (try dsimp only at hSw); go_simp; try with_reducible rfl)); try simp only [Act.put, List.setIfInBounds_toArray, List.set_cons_zero, List.set_cons_succ]
  refine wpAnyH_done (by kernel_rfl) ?_ _
  go_wp2_with fail
  go_ret
  exact ⟨rfl, (by repeat (first | with_reducible exact X2.out | with_reducible refine Ext.drew ?_ | with_reducible refine Ext.drewN ?_ _ | with_reducible refine Ext.alloc ?_ _ | with_reducible refine Ext.setCell ?_ (by first | omega | (simp; done) | (simp; omega)) _))⟩
theorem wd_c {x : Int} (h : decide (0 ≤ x ∧ x < 18446744073709551616) = true) : Word x := (by have h2 : 0 ≤ x ∧ x < 18446744073709551616 := of_decide_eq_true h; exact h2)
theorem kcut_c : ([(0, 2, 5, -1, 0, 9, 10, 10), (1, 2, 5, -1, 0, 9, 20, 20), (0, 3, 6, 2, 5, 12, 30, 30)], [], 0, 0) = cutV chapQ 2 10 1000000000 := by decide
theorem kcut_d : ([(0, 2, 5, -1, 0, 9, 10, 10), (1, 2, 5, -1, 0, 9, 20, 20), (0, 3, 6, 2, 5, 12, 30, 0)], [(2, 30)], 30, 0) = cutV chapQ 3 12 1000000000 := by decide
theorem kcut_e : ([], [], 0, 3) = cutV chapQ 32 1 0 := by decide
theorem kcut_f : ([], [], 0, 3) = cutV chapQ 0 1 1000000001 := by decide
set_option maxRecDepth 100000 in
set_option maxHeartbeats 4000000 in
theorem QueueKnown_any (w : World) : Calls Try.prog 6 #[] w fun r w' => r = .returned (.bool true) ∧ Ext w w' := by
  have qe := flt_eql
  have qg := flt_eqg
  go_enter Try.func6, Try.ntmps6
  go_wp2_with fail
  (with_reducible refine (chapter14_any _).mono ?_)
  rintro e w1 ⟨A1, c1, rfl, hn1, hO1, hx1⟩
  have z1 := hx1.size
  try simp at z1
  have X1 : Hid (Ext w w1) := Lib.hid (Ext.trans (by repeat (first | with_reducible exact Ext.refl w | with_reducible refine Ext.drew ?_ | with_reducible refine Ext.drewN ?_ _ | with_reducible refine Ext.alloc ?_ _ | with_reducible refine Ext.setCell ?_ (by first | omega | (simp; done) | (simp; omega)) _)) hx1)
  have HO := Lib.hid hO1
  clear hx1 z1 hO1
  have HN1 := Lib.hid hn1
  have hcap := (OwnEnt.sl HO.out).2.1
  have hcp1 : (1 : Int) ≤ c1 := by omega
  clear hn1
  go_wp2_with fail
  (with_reducible refine (qlive_n A1 3 c1 chapQ 0 3 1 _ (HO.out.ext (by repeat (first | with_reducible exact Ext.refl _ | with_reducible refine Ext.drew ?_ | with_reducible refine Ext.drewN ?_ _ | with_reducible refine Ext.alloc ?_ _ | with_reducible refine Ext.setCell ?_ (by first | omega | (simp; done) | (simp; omega)) _))).sl (by decide) chapQ_fits (by decide)).mono ?_)
  rintro e w2 ⟨rfl, hx2⟩
  have z2 := hx2.size
  try simp at z2
  replace HO := Lib.hid (HO.out.ext (Ext.trans (by repeat (first | with_reducible exact Ext.refl _ | with_reducible refine Ext.drew ?_ | with_reducible refine Ext.drewN ?_ _ | with_reducible refine Ext.alloc ?_ _ | with_reducible refine Ext.setCell ?_ (by first | omega | (simp; done) | (simp; omega)) _)) hx2))
  have X2 : Hid (Ext w w2) := Lib.hid (Ext.trans (by repeat (first | with_reducible exact X1.out | with_reducible refine Ext.drew ?_ | with_reducible refine Ext.drewN ?_ _ | with_reducible refine Ext.alloc ?_ _ | with_reducible refine Ext.setCell ?_ (by first | omega | (simp; done) | (simp; omega)) _)) hx2)
  clear X1 hx2 z2
  go_wp2_with fail
  (with_reducible refine (qlive_n A1 3 c1 chapQ 1 3 0 _ (HO.out.ext (by repeat (first | with_reducible exact Ext.refl _ | with_reducible refine Ext.drew ?_ | with_reducible refine Ext.drewN ?_ _ | with_reducible refine Ext.alloc ?_ _ | with_reducible refine Ext.setCell ?_ (by first | omega | (simp; done) | (simp; omega)) _))).sl (by decide) chapQ_fits (by decide)).mono ?_)
  rintro e w3 ⟨rfl, hx3⟩
  have z3 := hx3.size
  try simp at z3
  replace HO := Lib.hid (HO.out.ext (Ext.trans (by repeat (first | with_reducible exact Ext.refl _ | with_reducible refine Ext.drew ?_ | with_reducible refine Ext.drewN ?_ _ | with_reducible refine Ext.alloc ?_ _ | with_reducible refine Ext.setCell ?_ (by first | omega | (simp; done) | (simp; omega)) _)) hx3))
  have X3 : Hid (Ext w w3) := Lib.hid (Ext.trans (by repeat (first | with_reducible exact X2.out | with_reducible refine Ext.drew ?_ | with_reducible refine Ext.drewN ?_ _ | with_reducible refine Ext.alloc ?_ _ | with_reducible refine Ext.setCell ?_ (by first | omega | (simp; done) | (simp; omega)) _)) hx3)
  clear X2 hx3 z3
  go_wp2_with fail
  (with_reducible refine (qof_en A1 3 c1 chapQ [(0, 2, 5, -1, 0, 9, 10, 10), (0, 3, 6, 2, 5, 12, 30, 30)] 0 2 _ (HO.out.ext (by repeat (first | with_reducible exact Ext.refl _ | with_reducible refine Ext.drew ?_ | with_reducible refine Ext.drewN ?_ _ | with_reducible refine Ext.alloc ?_ _ | with_reducible refine Ext.setCell ?_ (by first | omega | (simp; done) | (simp; omega)) _))).sl (by decide) chapQ_fits rfl rfl).mono ?_)
  rintro e w4 ⟨A3, c3, rfl, hx4⟩
  have z4 := hx4.size
  try simp at z4
  replace HO := Lib.hid (HO.out.ext (Ext.trans (by repeat (first | with_reducible exact Ext.refl _ | with_reducible refine Ext.drew ?_ | with_reducible refine Ext.drewN ?_ _ | with_reducible refine Ext.alloc ?_ _ | with_reducible refine Ext.setCell ?_ (by first | omega | (simp; done) | (simp; omega)) _)) hx4))
  have X4 : Hid (Ext w w4) := Lib.hid (Ext.trans (by repeat (first | with_reducible exact X3.out | with_reducible refine Ext.drew ?_ | with_reducible refine Ext.drewN ?_ _ | with_reducible refine Ext.alloc ?_ _ | with_reducible refine Ext.setCell ?_ (by first | omega | (simp; done) | (simp; omega)) _)) hx4)
  clear X3 hx4 z4
  go_wp2_with fail
  (with_reducible refine (cuts14_t 2 10 1000000000 0 none 0 0 [] _ [] _ (Sl.nil _ _) (by decide) (by decide) (wd_c rfl) kcut_c rfl).mono ?_)
  rintro e w5 ⟨rfl, hx5⟩
  have z5 := hx5.size
  try simp at z5
  replace HO := Lib.hid (HO.out.ext (Ext.trans (by repeat (first | with_reducible exact Ext.refl _ | with_reducible refine Ext.drew ?_ | with_reducible refine Ext.drewN ?_ _ | with_reducible refine Ext.alloc ?_ _ | with_reducible refine Ext.setCell ?_ (by first | omega | (simp; done) | (simp; omega)) _)) hx5))
  have X5 : Hid (Ext w w5) := Lib.hid (Ext.trans (by repeat (first | with_reducible exact X4.out | with_reducible refine Ext.drew ?_ | with_reducible refine Ext.drewN ?_ _ | with_reducible refine Ext.alloc ?_ _ | with_reducible refine Ext.setCell ?_ (by first | omega | (simp; done) | (simp; omega)) _)) hx5)
  clear X4 hx5 z5
  go_wp2_with fail
  (with_reducible refine (qcut_en A1 3 c1 chapQ [(0, 2, 5, -1, 0, 9, 10, 10), (1, 2, 5, -1, 0, 9, 20, 20), (0, 3, 6, 2, 5, 12, 30, 0)] [(2, 30)] 3 12 1000000000 30 0 3 1 _ (HO.out.ext (by repeat (first | with_reducible exact Ext.refl _ | with_reducible refine Ext.drew ?_ | with_reducible refine Ext.drewN ?_ _ | with_reducible refine Ext.alloc ?_ _ | with_reducible refine Ext.setCell ?_ (by first | omega | (simp; done) | (simp; omega)) _))).sl (by decide) chapQ_fits HN1.out (by decide) (wd_c rfl) kcut_d rfl rfl).mono ?_)
  rintro e w6 ⟨A4, c4, A5, c5, rfl, hM, hx6⟩
  have z6 := hx6.size
  try simp at z6
  replace HO := Lib.hid (HO.out.ext (Ext.trans (by repeat (first | with_reducible exact Ext.refl _ | with_reducible refine Ext.drew ?_ | with_reducible refine Ext.drewN ?_ _ | with_reducible refine Ext.alloc ?_ _ | with_reducible refine Ext.setCell ?_ (by first | omega | (simp; done) | (simp; omega)) _)) hx6))
  have X6 : Hid (Ext w w6) := Lib.hid (Ext.trans (by repeat (first | with_reducible exact X5.out | with_reducible refine Ext.drew ?_ | with_reducible refine Ext.drewN ?_ _ | with_reducible refine Ext.alloc ?_ _ | with_reducible refine Ext.setCell ?_ (by first | omega | (simp; done) | (simp; omega)) _)) hx6)
  clear X5 hx6 z6
  have HM0 := Lib.hid hM
  clear hM
  obtain ⟨g3, rfl, _, hg3⟩ := OwnEnt.box HM0.out (by decide)
  have m_7 := World.ownsRow.cells (g := g3) HM0.out rfl 7 (.int .u64 10) rfl
  rw [addr_add, Nat.zero_add] at m_7
  have m_15 := World.ownsRow.cells (g := g3) HM0.out rfl 15 (.int .u64 20) rfl
  rw [addr_add, Nat.zero_add] at m_15
  have m_22 := World.ownsRow.cells (g := g3) HM0.out rfl 22 (.int .u64 30) rfl
  rw [addr_add, Nat.zero_add] at m_22
  have m_23 := World.ownsRow.cells (g := g3) HM0.out rfl 23 (.int .u64 0) rfl
  rw [addr_add, Nat.zero_add] at m_23
  go_wp2_with fail
  (with_reducible refine (qcut_en A1 3 c1 chapQ [] [] 32 1 0 0 3 0 0 _ (HO.out.ext (by repeat (first | with_reducible exact Ext.refl _ | with_reducible refine Ext.drew ?_ | with_reducible refine Ext.drewN ?_ _ | with_reducible refine Ext.alloc ?_ _ | with_reducible refine Ext.setCell ?_ (by first | omega | (simp; done) | (simp; omega)) _))).sl (by decide) chapQ_fits HN1.out (by decide) (wd_c rfl) kcut_e rfl rfl).mono ?_)
  rintro e w7 ⟨A6, c6, A7, c7, rfl, hM, hx7⟩
  replace m_7 : w7.cell? ⟨g3, 7, none⟩ = some (.int .u64 10) := hx7.has (by first | exact m_7 | (simp [go_sem, World.cell?_alloc_past, m_7, m_15, m_22, m_23]; done))
  replace m_15 : w7.cell? ⟨g3, 15, none⟩ = some (.int .u64 20) := hx7.has (by first | exact m_15 | (simp [go_sem, World.cell?_alloc_past, m_7, m_15, m_22, m_23]; done))
  replace m_22 : w7.cell? ⟨g3, 22, none⟩ = some (.int .u64 30) := hx7.has (by first | exact m_22 | (simp [go_sem, World.cell?_alloc_past, m_7, m_15, m_22, m_23]; done))
  replace m_23 : w7.cell? ⟨g3, 23, none⟩ = some (.int .u64 0) := hx7.has (by first | exact m_23 | (simp [go_sem, World.cell?_alloc_past, m_7, m_15, m_22, m_23]; done))
  have z7 := hx7.size
  try simp at z7
  have rm : g3 < w7.heap.size := by omega
  have rma : g3 < w7.heap.size + 1 := by omega
  have rmb : g3 < w7.heap.size + 1 + 1 := by omega
  have rmc : g3 < w7.heap.size + 1 + 1 + 1 := by omega
  have rmn : ¬ g3 = w7.heap.size := by omega
  replace HO := Lib.hid (HO.out.ext (Ext.trans (by repeat (first | with_reducible exact Ext.refl _ | with_reducible refine Ext.drew ?_ | with_reducible refine Ext.drewN ?_ _ | with_reducible refine Ext.alloc ?_ _ | with_reducible refine Ext.setCell ?_ (by first | omega | (simp; done) | (simp; omega)) _)) hx7))
  have X7 : Hid (Ext w w7) := Lib.hid (Ext.trans (by repeat (first | with_reducible exact X6.out | with_reducible refine Ext.drew ?_ | with_reducible refine Ext.drewN ?_ _ | with_reducible refine Ext.alloc ?_ _ | with_reducible refine Ext.setCell ?_ (by first | omega | (simp; done) | (simp; omega)) _)) hx7)
  clear X6 hx7 z7
  clear hM
  go_wp2_with fail
  (with_reducible refine (qcut_en A1 3 c1 chapQ [] [] 0 1 1000000001 0 3 0 0 _ (HO.out.ext (by repeat (first | with_reducible exact Ext.refl _ | with_reducible refine Ext.drew ?_ | with_reducible refine Ext.drewN ?_ _ | with_reducible refine Ext.alloc ?_ _ | with_reducible refine Ext.setCell ?_ (by first | omega | (simp; done) | (simp; omega)) _))).sl (by decide) chapQ_fits HN1.out (by decide) (wd_c rfl) kcut_f rfl rfl).mono ?_)
  rintro e w8 ⟨A8, c8, A9, c9, rfl, hM, hx8⟩
  replace m_7 : w8.cell? ⟨g3, 7, none⟩ = some (.int .u64 10) := hx8.has (by first | exact m_7 | (simp [go_sem, World.cell?_alloc_past, m_7, m_15, m_22, m_23, rm, rma, rmb, rmc, rmn]; done))
  replace m_15 : w8.cell? ⟨g3, 15, none⟩ = some (.int .u64 20) := hx8.has (by first | exact m_15 | (simp [go_sem, World.cell?_alloc_past, m_7, m_15, m_22, m_23, rm, rma, rmb, rmc, rmn]; done))
  replace m_22 : w8.cell? ⟨g3, 22, none⟩ = some (.int .u64 30) := hx8.has (by first | exact m_22 | (simp [go_sem, World.cell?_alloc_past, m_7, m_15, m_22, m_23, rm, rma, rmb, rmc, rmn]; done))
  replace m_23 : w8.cell? ⟨g3, 23, none⟩ = some (.int .u64 0) := hx8.has (by first | exact m_23 | (simp [go_sem, World.cell?_alloc_past, m_7, m_15, m_22, m_23, rm, rma, rmb, rmc, rmn]; done))
  have z8 := hx8.size
  try simp at z8
  replace rm : g3 < w8.heap.size := by omega
  replace rma : g3 < w8.heap.size + 1 := by omega
  replace rmb : g3 < w8.heap.size + 1 + 1 := by omega
  replace rmc : g3 < w8.heap.size + 1 + 1 + 1 := by omega
  replace rmn : ¬ g3 = w8.heap.size := by omega
  replace HO := Lib.hid (HO.out.ext (Ext.trans (by repeat (first | with_reducible exact Ext.refl _ | with_reducible refine Ext.drew ?_ | with_reducible refine Ext.drewN ?_ _ | with_reducible refine Ext.alloc ?_ _ | with_reducible refine Ext.setCell ?_ (by first | omega | (simp; done) | (simp; omega)) _)) hx8))
  have X8 : Hid (Ext w w8) := Lib.hid (Ext.trans (by repeat (first | with_reducible exact X7.out | with_reducible refine Ext.drew ?_ | with_reducible refine Ext.drewN ?_ _ | with_reducible refine Ext.alloc ?_ _ | with_reducible refine Ext.setCell ?_ (by first | omega | (simp; done) | (simp; omega)) _)) hx8)
  clear X7 hx8 z8
  clear hM
  go_wp2_with fail
  (with_reducible refine (ripe14_ok A1 c1 [] chapQ 18 10 0 3 _ (HO.out.ext (by repeat (first | with_reducible exact Ext.refl _ | with_reducible refine Ext.drew ?_ | with_reducible refine Ext.drewN ?_ _ | with_reducible refine Ext.alloc ?_ _ | with_reducible refine Ext.setCell ?_ (by first | omega | (simp; done) | (simp; omega)) _))).sl HN1.out (by decide) rfl rfl rfl).mono ?_)
  rintro e w9 ⟨rfl, hx9⟩
  have z9 := hx9.size
  try simp at z9
  replace HO := Lib.hid (HO.out.ext (Ext.trans (by repeat (first | with_reducible exact Ext.refl _ | with_reducible refine Ext.drew ?_ | with_reducible refine Ext.drewN ?_ _ | with_reducible refine Ext.alloc ?_ _ | with_reducible refine Ext.setCell ?_ (by first | omega | (simp; done) | (simp; omega)) _)) hx9))
  have X9 : Hid (Ext w w9) := Lib.hid (Ext.trans (by repeat (first | with_reducible exact X8.out | with_reducible refine Ext.drew ?_ | with_reducible refine Ext.drewN ?_ _ | with_reducible refine Ext.alloc ?_ _ | with_reducible refine Ext.setCell ?_ (by first | omega | (simp; done) | (simp; omega)) _)) hx9)
  clear m_23 m_22 m_7 m_15 rm rma rmb rmc rmn X8 hx9 z9
  go_wp2_with fail
  (with_reducible refine (ripe14_ok A1 c1 [(0, 2, 5, -1, 0, 9, 10, 10), (1, 2, 5, -1, 0, 9, 20, 20)] [(0, 3, 6, 2, 5, 12, 30, 30)] 19 10 2 1 _ (HO.out.ext (by repeat (first | with_reducible exact Ext.refl _ | with_reducible refine Ext.drew ?_ | with_reducible refine Ext.drewN ?_ _ | with_reducible refine Ext.alloc ?_ _ | with_reducible refine Ext.setCell ?_ (by first | omega | (simp; done) | (simp; omega)) _))).sl HN1.out (by decide) rfl rfl rfl).mono ?_)
  rintro e w10 ⟨rfl, hx10⟩
  have z10 := hx10.size
  try simp at z10
  replace HO := Lib.hid (HO.out.ext (Ext.trans (by repeat (first | with_reducible exact Ext.refl _ | with_reducible refine Ext.drew ?_ | with_reducible refine Ext.drewN ?_ _ | with_reducible refine Ext.alloc ?_ _ | with_reducible refine Ext.setCell ?_ (by first | omega | (simp; done) | (simp; omega)) _)) hx10))
  have X10 : Hid (Ext w w10) := Lib.hid (Ext.trans (by repeat (first | with_reducible exact X9.out | with_reducible refine Ext.drew ?_ | with_reducible refine Ext.drewN ?_ _ | with_reducible refine Ext.alloc ?_ _ | with_reducible refine Ext.setCell ?_ (by first | omega | (simp; done) | (simp; omega)) _)) hx10)
  clear X9 hx10 z10
  go_wp2_with fail
  (with_reducible refine (ripe14_er A1 c1 0 10 3 (-3) _ (HO.out.ext (by repeat (first | with_reducible exact Ext.refl _ | with_reducible refine Ext.drew ?_ | with_reducible refine Ext.drewN ?_ _ | with_reducible refine Ext.alloc ?_ _ | with_reducible refine Ext.setCell ?_ (by first | omega | (simp; done) | (simp; omega)) _))).sl HN1.out (by decide) (by decide) (by decide) (by decide) rfl).mono ?_)
  rintro e w11 ⟨rfl, hx11⟩
  have z11 := hx11.size
  try simp at z11
  replace HO := Lib.hid (HO.out.ext (Ext.trans (by repeat (first | with_reducible exact Ext.refl _ | with_reducible refine Ext.drew ?_ | with_reducible refine Ext.drewN ?_ _ | with_reducible refine Ext.alloc ?_ _ | with_reducible refine Ext.setCell ?_ (by first | omega | (simp; done) | (simp; omega)) _)) hx11))
  have X11 : Hid (Ext w w11) := Lib.hid (Ext.trans (by repeat (first | with_reducible exact X10.out | with_reducible refine Ext.drew ?_ | with_reducible refine Ext.drewN ?_ _ | with_reducible refine Ext.alloc ?_ _ | with_reducible refine Ext.setCell ?_ (by first | omega | (simp; done) | (simp; omega)) _)) hx11)
  clear X10 hx11 z11
  go_wp2_with fail
  (with_reducible refine (two14_any _).mono ?_)
  rintro e w12 ⟨rfl, hx12⟩
  have z12 := hx12.size
  try simp at z12
  replace HO := Lib.hid (HO.out.ext (Ext.trans (by repeat (first | with_reducible exact Ext.refl _ | with_reducible refine Ext.drew ?_ | with_reducible refine Ext.drewN ?_ _ | with_reducible refine Ext.alloc ?_ _ | with_reducible refine Ext.setCell ?_ (by first | omega | (simp; done) | (simp; omega)) _)) hx12))
  have X12 : Hid (Ext w w12) := Lib.hid (Ext.trans (by repeat (first | with_reducible exact X11.out | with_reducible refine Ext.drew ?_ | with_reducible refine Ext.drewN ?_ _ | with_reducible refine Ext.alloc ?_ _ | with_reducible refine Ext.setCell ?_ (by first | omega | (simp; done) | (simp; omega)) _)) hx12)
  clear X11 hx12 z12
  go_wp2_with fail
  (with_reducible refine (entry14_any 0 2 5 (-1) 0 12 3 _).mono ?_)
  rintro e w13 ⟨rfl, hx13⟩
  have z13 := hx13.size
  try simp at z13
  replace HO := Lib.hid (HO.out.ext (Ext.trans (by repeat (first | with_reducible exact Ext.refl _ | with_reducible refine Ext.drew ?_ | with_reducible refine Ext.drewN ?_ _ | with_reducible refine Ext.alloc ?_ _ | with_reducible refine Ext.setCell ?_ (by first | omega | (simp; done) | (simp; omega)) _)) hx13))
  have X13 : Hid (Ext w w13) := Lib.hid (Ext.trans (by repeat (first | with_reducible exact X12.out | with_reducible refine Ext.drew ?_ | with_reducible refine Ext.drewN ?_ _ | with_reducible refine Ext.alloc ?_ _ | with_reducible refine Ext.setCell ?_ (by first | omega | (simp; done) | (simp; omega)) _)) hx13)
  clear X12 hx13 z13
  go_wp2_with fail
  (with_reducible refine (hop14_any _).mono ?_)
  rintro e w14 ⟨rfl, hx14⟩
  have c0_0 : w14.cell? ⟨w13.heap.size, 0, none⟩ = some (.int .i64 0) := hx14.has (by first | fail | (simp [go_sem, World.cell?_alloc_past]; done))
  have c0_1 : w14.cell? ⟨w13.heap.size, 1, none⟩ = some (.int .i64 2) := hx14.has (by first | fail | (simp [go_sem, World.cell?_alloc_past]; done))
  have c0_2 : w14.cell? ⟨w13.heap.size, 2, none⟩ = some (.int .i64 5) := hx14.has (by first | fail | (simp [go_sem, World.cell?_alloc_past]; done))
  have c0_3 : w14.cell? ⟨w13.heap.size, 3, none⟩ = some (.int .i64 (-1)) := hx14.has (by first | fail | (simp [go_sem, World.cell?_alloc_past]; done))
  have c0_4 : w14.cell? ⟨w13.heap.size, 4, none⟩ = some (.int .i64 0) := hx14.has (by first | fail | (simp [go_sem, World.cell?_alloc_past]; done))
  have c0_5 : w14.cell? ⟨w13.heap.size, 5, none⟩ = some (.int .i64 12) := hx14.has (by first | fail | (simp [go_sem, World.cell?_alloc_past]; done))
  have c0_6 : w14.cell? ⟨w13.heap.size, 6, none⟩ = some (.int .u64 3) := hx14.has (by first | fail | (simp [go_sem, World.cell?_alloc_past]; done))
  have c0_7 : w14.cell? ⟨w13.heap.size, 7, none⟩ = some (.int .u64 2) := hx14.has (by first | fail | (simp [go_sem, World.cell?_alloc_past]; done))
  have z14 := hx14.size
  try simp at z14
  have rc0 : w13.heap.size < w14.heap.size := by omega
  have rc0a : w13.heap.size < w14.heap.size + 1 := by omega
  have rc0b : w13.heap.size < w14.heap.size + 1 + 1 := by omega
  have rc0c : w13.heap.size < w14.heap.size + 1 + 1 + 1 := by omega
  have rc0n : ¬ w13.heap.size = w14.heap.size := by omega
  replace HO := Lib.hid (HO.out.ext (Ext.trans (by repeat (first | with_reducible exact Ext.refl _ | with_reducible refine Ext.drew ?_ | with_reducible refine Ext.drewN ?_ _ | with_reducible refine Ext.alloc ?_ _ | with_reducible refine Ext.setCell ?_ (by first | omega | (simp; done) | (simp; omega)) _)) hx14))
  have X14 : Hid (Ext w w14) := Lib.hid (Ext.trans (by repeat (first | with_reducible exact X13.out | with_reducible refine Ext.drew ?_ | with_reducible refine Ext.drewN ?_ _ | with_reducible refine Ext.alloc ?_ _ | with_reducible refine Ext.setCell ?_ (by first | omega | (simp; done) | (simp; omega)) _)) hx14)
  clear X13 hx14 z14
  go_wp2_with fail
  (with_reducible refine (entry14_any 0 3 6 2 5 11 1 _).mono ?_)
  rintro e w15 ⟨rfl, hx15⟩
  replace c0_0 : w15.cell? ⟨w13.heap.size, 0, none⟩ = some (.int .i64 0) := hx15.has (by first | exact c0_0 | (simp [go_sem, World.cell?_alloc_past, c0_0, c0_1, c0_2, c0_3, c0_4, c0_5, c0_6, c0_7, rc0, rc0a, rc0b, rc0c, rc0n]; done))
  replace c0_1 : w15.cell? ⟨w13.heap.size, 1, none⟩ = some (.int .i64 2) := hx15.has (by first | exact c0_1 | (simp [go_sem, World.cell?_alloc_past, c0_0, c0_1, c0_2, c0_3, c0_4, c0_5, c0_6, c0_7, rc0, rc0a, rc0b, rc0c, rc0n]; done))
  replace c0_2 : w15.cell? ⟨w13.heap.size, 2, none⟩ = some (.int .i64 5) := hx15.has (by first | exact c0_2 | (simp [go_sem, World.cell?_alloc_past, c0_0, c0_1, c0_2, c0_3, c0_4, c0_5, c0_6, c0_7, rc0, rc0a, rc0b, rc0c, rc0n]; done))
  replace c0_3 : w15.cell? ⟨w13.heap.size, 3, none⟩ = some (.int .i64 (-1)) := hx15.has (by first | exact c0_3 | (simp [go_sem, World.cell?_alloc_past, c0_0, c0_1, c0_2, c0_3, c0_4, c0_5, c0_6, c0_7, rc0, rc0a, rc0b, rc0c, rc0n]; done))
  replace c0_4 : w15.cell? ⟨w13.heap.size, 4, none⟩ = some (.int .i64 0) := hx15.has (by first | exact c0_4 | (simp [go_sem, World.cell?_alloc_past, c0_0, c0_1, c0_2, c0_3, c0_4, c0_5, c0_6, c0_7, rc0, rc0a, rc0b, rc0c, rc0n]; done))
  replace c0_5 : w15.cell? ⟨w13.heap.size, 5, none⟩ = some (.int .i64 12) := hx15.has (by first | exact c0_5 | (simp [go_sem, World.cell?_alloc_past, c0_0, c0_1, c0_2, c0_3, c0_4, c0_5, c0_6, c0_7, rc0, rc0a, rc0b, rc0c, rc0n]; done))
  replace c0_6 : w15.cell? ⟨w13.heap.size, 6, none⟩ = some (.int .u64 3) := hx15.has (by first | exact c0_6 | (simp [go_sem, World.cell?_alloc_past, c0_0, c0_1, c0_2, c0_3, c0_4, c0_5, c0_6, c0_7, rc0, rc0a, rc0b, rc0c, rc0n]; done))
  replace c0_7 : w15.cell? ⟨w13.heap.size, 7, none⟩ = some (.int .u64 2) := hx15.has (by first | exact c0_7 | (simp [go_sem, World.cell?_alloc_past, c0_0, c0_1, c0_2, c0_3, c0_4, c0_5, c0_6, c0_7, rc0, rc0a, rc0b, rc0c, rc0n]; done))
  have z15 := hx15.size
  try simp at z15
  replace rc0 : w13.heap.size < w15.heap.size := by omega
  replace rc0a : w13.heap.size < w15.heap.size + 1 := by omega
  replace rc0b : w13.heap.size < w15.heap.size + 1 + 1 := by omega
  replace rc0c : w13.heap.size < w15.heap.size + 1 + 1 + 1 := by omega
  replace rc0n : ¬ w13.heap.size = w15.heap.size := by omega
  replace HO := Lib.hid (HO.out.ext (Ext.trans (by repeat (first | with_reducible exact Ext.refl _ | with_reducible refine Ext.drew ?_ | with_reducible refine Ext.drewN ?_ _ | with_reducible refine Ext.alloc ?_ _ | with_reducible refine Ext.setCell ?_ (by first | omega | (simp; done) | (simp; omega)) _)) hx15))
  have X15 : Hid (Ext w w15) := Lib.hid (Ext.trans (by repeat (first | with_reducible exact X14.out | with_reducible refine Ext.drew ?_ | with_reducible refine Ext.drewN ?_ _ | with_reducible refine Ext.alloc ?_ _ | with_reducible refine Ext.setCell ?_ (by first | omega | (simp; done) | (simp; omega)) _)) hx15)
  clear X14 hx15 z15
  go_wp2_with fail
  (with_reducible refine (adds14_ev 0 3 6 2 5 11 1 1 2 9 [] _ (fitsQ_one (by decide)) (by decide)).mono ?_)
  rintro e w16 ⟨rfl, hx16⟩
  replace c0_0 : w16.cell? ⟨w13.heap.size, 0, none⟩ = some (.int .i64 0) := hx16.has (by first | exact c0_0 | (simp [go_sem, World.cell?_alloc_past, c0_0, c0_1, c0_2, c0_3, c0_4, c0_5, c0_6, c0_7, rc0, rc0a, rc0b, rc0c, rc0n]; done))
  replace c0_1 : w16.cell? ⟨w13.heap.size, 1, none⟩ = some (.int .i64 2) := hx16.has (by first | exact c0_1 | (simp [go_sem, World.cell?_alloc_past, c0_0, c0_1, c0_2, c0_3, c0_4, c0_5, c0_6, c0_7, rc0, rc0a, rc0b, rc0c, rc0n]; done))
  replace c0_2 : w16.cell? ⟨w13.heap.size, 2, none⟩ = some (.int .i64 5) := hx16.has (by first | exact c0_2 | (simp [go_sem, World.cell?_alloc_past, c0_0, c0_1, c0_2, c0_3, c0_4, c0_5, c0_6, c0_7, rc0, rc0a, rc0b, rc0c, rc0n]; done))
  replace c0_3 : w16.cell? ⟨w13.heap.size, 3, none⟩ = some (.int .i64 (-1)) := hx16.has (by first | exact c0_3 | (simp [go_sem, World.cell?_alloc_past, c0_0, c0_1, c0_2, c0_3, c0_4, c0_5, c0_6, c0_7, rc0, rc0a, rc0b, rc0c, rc0n]; done))
  replace c0_4 : w16.cell? ⟨w13.heap.size, 4, none⟩ = some (.int .i64 0) := hx16.has (by first | exact c0_4 | (simp [go_sem, World.cell?_alloc_past, c0_0, c0_1, c0_2, c0_3, c0_4, c0_5, c0_6, c0_7, rc0, rc0a, rc0b, rc0c, rc0n]; done))
  replace c0_5 : w16.cell? ⟨w13.heap.size, 5, none⟩ = some (.int .i64 12) := hx16.has (by first | exact c0_5 | (simp [go_sem, World.cell?_alloc_past, c0_0, c0_1, c0_2, c0_3, c0_4, c0_5, c0_6, c0_7, rc0, rc0a, rc0b, rc0c, rc0n]; done))
  replace c0_6 : w16.cell? ⟨w13.heap.size, 6, none⟩ = some (.int .u64 3) := hx16.has (by first | exact c0_6 | (simp [go_sem, World.cell?_alloc_past, c0_0, c0_1, c0_2, c0_3, c0_4, c0_5, c0_6, c0_7, rc0, rc0a, rc0b, rc0c, rc0n]; done))
  replace c0_7 : w16.cell? ⟨w13.heap.size, 7, none⟩ = some (.int .u64 2) := hx16.has (by first | exact c0_7 | (simp [go_sem, World.cell?_alloc_past, c0_0, c0_1, c0_2, c0_3, c0_4, c0_5, c0_6, c0_7, rc0, rc0a, rc0b, rc0c, rc0n]; done))
  have z16 := hx16.size
  try simp at z16
  replace rc0 : w13.heap.size < w16.heap.size := by omega
  replace rc0a : w13.heap.size < w16.heap.size + 1 := by omega
  replace rc0b : w13.heap.size < w16.heap.size + 1 + 1 := by omega
  replace rc0c : w13.heap.size < w16.heap.size + 1 + 1 + 1 := by omega
  replace rc0n : ¬ w13.heap.size = w16.heap.size := by omega
  replace HO := Lib.hid (HO.out.ext (Ext.trans (by repeat (first | with_reducible exact Ext.refl _ | with_reducible refine Ext.drew ?_ | with_reducible refine Ext.drewN ?_ _ | with_reducible refine Ext.alloc ?_ _ | with_reducible refine Ext.setCell ?_ (by first | omega | (simp; done) | (simp; omega)) _)) hx16))
  have X16 : Hid (Ext w w16) := Lib.hid (Ext.trans (by repeat (first | with_reducible exact X15.out | with_reducible refine Ext.drew ?_ | with_reducible refine Ext.drewN ?_ _ | with_reducible refine Ext.alloc ?_ _ | with_reducible refine Ext.setCell ?_ (by first | omega | (simp; done) | (simp; omega)) _)) hx16)
  clear X15 hx16 z16
  go_wp2_with fail
  (with_reducible refine (two14_any _).mono ?_)
  rintro e w17 ⟨rfl, hx17⟩
  replace c0_0 : w17.cell? ⟨w13.heap.size, 0, none⟩ = some (.int .i64 0) := hx17.has (by first | exact c0_0 | (simp [go_sem, World.cell?_alloc_past, c0_0, c0_1, c0_2, c0_3, c0_4, c0_5, c0_6, c0_7, rc0, rc0a, rc0b, rc0c, rc0n]; done))
  replace c0_1 : w17.cell? ⟨w13.heap.size, 1, none⟩ = some (.int .i64 2) := hx17.has (by first | exact c0_1 | (simp [go_sem, World.cell?_alloc_past, c0_0, c0_1, c0_2, c0_3, c0_4, c0_5, c0_6, c0_7, rc0, rc0a, rc0b, rc0c, rc0n]; done))
  replace c0_2 : w17.cell? ⟨w13.heap.size, 2, none⟩ = some (.int .i64 5) := hx17.has (by first | exact c0_2 | (simp [go_sem, World.cell?_alloc_past, c0_0, c0_1, c0_2, c0_3, c0_4, c0_5, c0_6, c0_7, rc0, rc0a, rc0b, rc0c, rc0n]; done))
  replace c0_3 : w17.cell? ⟨w13.heap.size, 3, none⟩ = some (.int .i64 (-1)) := hx17.has (by first | exact c0_3 | (simp [go_sem, World.cell?_alloc_past, c0_0, c0_1, c0_2, c0_3, c0_4, c0_5, c0_6, c0_7, rc0, rc0a, rc0b, rc0c, rc0n]; done))
  replace c0_4 : w17.cell? ⟨w13.heap.size, 4, none⟩ = some (.int .i64 0) := hx17.has (by first | exact c0_4 | (simp [go_sem, World.cell?_alloc_past, c0_0, c0_1, c0_2, c0_3, c0_4, c0_5, c0_6, c0_7, rc0, rc0a, rc0b, rc0c, rc0n]; done))
  replace c0_5 : w17.cell? ⟨w13.heap.size, 5, none⟩ = some (.int .i64 12) := hx17.has (by first | exact c0_5 | (simp [go_sem, World.cell?_alloc_past, c0_0, c0_1, c0_2, c0_3, c0_4, c0_5, c0_6, c0_7, rc0, rc0a, rc0b, rc0c, rc0n]; done))
  replace c0_6 : w17.cell? ⟨w13.heap.size, 6, none⟩ = some (.int .u64 3) := hx17.has (by first | exact c0_6 | (simp [go_sem, World.cell?_alloc_past, c0_0, c0_1, c0_2, c0_3, c0_4, c0_5, c0_6, c0_7, rc0, rc0a, rc0b, rc0c, rc0n]; done))
  replace c0_7 : w17.cell? ⟨w13.heap.size, 7, none⟩ = some (.int .u64 2) := hx17.has (by first | exact c0_7 | (simp [go_sem, World.cell?_alloc_past, c0_0, c0_1, c0_2, c0_3, c0_4, c0_5, c0_6, c0_7, rc0, rc0a, rc0b, rc0c, rc0n]; done))
  have z17 := hx17.size
  try simp at z17
  replace rc0 : w13.heap.size < w17.heap.size := by omega
  replace rc0a : w13.heap.size < w17.heap.size + 1 := by omega
  replace rc0b : w13.heap.size < w17.heap.size + 1 + 1 := by omega
  replace rc0c : w13.heap.size < w17.heap.size + 1 + 1 + 1 := by omega
  replace rc0n : ¬ w13.heap.size = w17.heap.size := by omega
  replace HO := Lib.hid (HO.out.ext (Ext.trans (by repeat (first | with_reducible exact Ext.refl _ | with_reducible refine Ext.drew ?_ | with_reducible refine Ext.drewN ?_ _ | with_reducible refine Ext.alloc ?_ _ | with_reducible refine Ext.setCell ?_ (by first | omega | (simp; done) | (simp; omega)) _)) hx17))
  have X17 : Hid (Ext w w17) := Lib.hid (Ext.trans (by repeat (first | with_reducible exact X16.out | with_reducible refine Ext.drew ?_ | with_reducible refine Ext.drewN ?_ _ | with_reducible refine Ext.alloc ?_ _ | with_reducible refine Ext.setCell ?_ (by first | omega | (simp; done) | (simp; omega)) _)) hx17)
  clear X16 hx17 z17
  go_wp2_with fail
  (with_reducible refine (entry14_any 0 2 5 (-1) 0 12 1 _).mono ?_)
  rintro e w18 ⟨rfl, hx18⟩
  replace c0_0 : w18.cell? ⟨w13.heap.size, 0, none⟩ = some (.int .i64 0) := hx18.has (by first | exact c0_0 | (simp [go_sem, World.cell?_alloc_past, c0_0, c0_1, c0_2, c0_3, c0_4, c0_5, c0_6, c0_7, rc0, rc0a, rc0b, rc0c, rc0n]; done))
  replace c0_1 : w18.cell? ⟨w13.heap.size, 1, none⟩ = some (.int .i64 2) := hx18.has (by first | exact c0_1 | (simp [go_sem, World.cell?_alloc_past, c0_0, c0_1, c0_2, c0_3, c0_4, c0_5, c0_6, c0_7, rc0, rc0a, rc0b, rc0c, rc0n]; done))
  replace c0_2 : w18.cell? ⟨w13.heap.size, 2, none⟩ = some (.int .i64 5) := hx18.has (by first | exact c0_2 | (simp [go_sem, World.cell?_alloc_past, c0_0, c0_1, c0_2, c0_3, c0_4, c0_5, c0_6, c0_7, rc0, rc0a, rc0b, rc0c, rc0n]; done))
  replace c0_3 : w18.cell? ⟨w13.heap.size, 3, none⟩ = some (.int .i64 (-1)) := hx18.has (by first | exact c0_3 | (simp [go_sem, World.cell?_alloc_past, c0_0, c0_1, c0_2, c0_3, c0_4, c0_5, c0_6, c0_7, rc0, rc0a, rc0b, rc0c, rc0n]; done))
  replace c0_4 : w18.cell? ⟨w13.heap.size, 4, none⟩ = some (.int .i64 0) := hx18.has (by first | exact c0_4 | (simp [go_sem, World.cell?_alloc_past, c0_0, c0_1, c0_2, c0_3, c0_4, c0_5, c0_6, c0_7, rc0, rc0a, rc0b, rc0c, rc0n]; done))
  replace c0_5 : w18.cell? ⟨w13.heap.size, 5, none⟩ = some (.int .i64 12) := hx18.has (by first | exact c0_5 | (simp [go_sem, World.cell?_alloc_past, c0_0, c0_1, c0_2, c0_3, c0_4, c0_5, c0_6, c0_7, rc0, rc0a, rc0b, rc0c, rc0n]; done))
  replace c0_6 : w18.cell? ⟨w13.heap.size, 6, none⟩ = some (.int .u64 3) := hx18.has (by first | exact c0_6 | (simp [go_sem, World.cell?_alloc_past, c0_0, c0_1, c0_2, c0_3, c0_4, c0_5, c0_6, c0_7, rc0, rc0a, rc0b, rc0c, rc0n]; done))
  replace c0_7 : w18.cell? ⟨w13.heap.size, 7, none⟩ = some (.int .u64 2) := hx18.has (by first | exact c0_7 | (simp [go_sem, World.cell?_alloc_past, c0_0, c0_1, c0_2, c0_3, c0_4, c0_5, c0_6, c0_7, rc0, rc0a, rc0b, rc0c, rc0n]; done))
  have z18 := hx18.size
  try simp at z18
  replace rc0 : w13.heap.size < w18.heap.size := by omega
  replace rc0a : w13.heap.size < w18.heap.size + 1 := by omega
  replace rc0b : w13.heap.size < w18.heap.size + 1 + 1 := by omega
  replace rc0c : w13.heap.size < w18.heap.size + 1 + 1 + 1 := by omega
  replace rc0n : ¬ w13.heap.size = w18.heap.size := by omega
  replace HO := Lib.hid (HO.out.ext (Ext.trans (by repeat (first | with_reducible exact Ext.refl _ | with_reducible refine Ext.drew ?_ | with_reducible refine Ext.drewN ?_ _ | with_reducible refine Ext.alloc ?_ _ | with_reducible refine Ext.setCell ?_ (by first | omega | (simp; done) | (simp; omega)) _)) hx18))
  have X18 : Hid (Ext w w18) := Lib.hid (Ext.trans (by repeat (first | with_reducible exact X17.out | with_reducible refine Ext.drew ?_ | with_reducible refine Ext.drewN ?_ _ | with_reducible refine Ext.alloc ?_ _ | with_reducible refine Ext.setCell ?_ (by first | omega | (simp; done) | (simp; omega)) _)) hx18)
  clear X17 hx18 z18
  go_wp2_with fail
  (with_reducible refine (adds14_ev 0 2 5 (-1) 0 12 1 1 1 22 [] _ (fitsQ_one (by decide)) (by decide)).mono ?_)
  rintro e w19 ⟨rfl, hx19⟩
  replace c0_0 : w19.cell? ⟨w13.heap.size, 0, none⟩ = some (.int .i64 0) := hx19.has (by first | exact c0_0 | (simp [go_sem, World.cell?_alloc_past, c0_0, c0_1, c0_2, c0_3, c0_4, c0_5, c0_6, c0_7, rc0, rc0a, rc0b, rc0c, rc0n]; done))
  replace c0_1 : w19.cell? ⟨w13.heap.size, 1, none⟩ = some (.int .i64 2) := hx19.has (by first | exact c0_1 | (simp [go_sem, World.cell?_alloc_past, c0_0, c0_1, c0_2, c0_3, c0_4, c0_5, c0_6, c0_7, rc0, rc0a, rc0b, rc0c, rc0n]; done))
  replace c0_2 : w19.cell? ⟨w13.heap.size, 2, none⟩ = some (.int .i64 5) := hx19.has (by first | exact c0_2 | (simp [go_sem, World.cell?_alloc_past, c0_0, c0_1, c0_2, c0_3, c0_4, c0_5, c0_6, c0_7, rc0, rc0a, rc0b, rc0c, rc0n]; done))
  replace c0_3 : w19.cell? ⟨w13.heap.size, 3, none⟩ = some (.int .i64 (-1)) := hx19.has (by first | exact c0_3 | (simp [go_sem, World.cell?_alloc_past, c0_0, c0_1, c0_2, c0_3, c0_4, c0_5, c0_6, c0_7, rc0, rc0a, rc0b, rc0c, rc0n]; done))
  replace c0_4 : w19.cell? ⟨w13.heap.size, 4, none⟩ = some (.int .i64 0) := hx19.has (by first | exact c0_4 | (simp [go_sem, World.cell?_alloc_past, c0_0, c0_1, c0_2, c0_3, c0_4, c0_5, c0_6, c0_7, rc0, rc0a, rc0b, rc0c, rc0n]; done))
  replace c0_5 : w19.cell? ⟨w13.heap.size, 5, none⟩ = some (.int .i64 12) := hx19.has (by first | exact c0_5 | (simp [go_sem, World.cell?_alloc_past, c0_0, c0_1, c0_2, c0_3, c0_4, c0_5, c0_6, c0_7, rc0, rc0a, rc0b, rc0c, rc0n]; done))
  replace c0_6 : w19.cell? ⟨w13.heap.size, 6, none⟩ = some (.int .u64 3) := hx19.has (by first | exact c0_6 | (simp [go_sem, World.cell?_alloc_past, c0_0, c0_1, c0_2, c0_3, c0_4, c0_5, c0_6, c0_7, rc0, rc0a, rc0b, rc0c, rc0n]; done))
  replace c0_7 : w19.cell? ⟨w13.heap.size, 7, none⟩ = some (.int .u64 2) := hx19.has (by first | exact c0_7 | (simp [go_sem, World.cell?_alloc_past, c0_0, c0_1, c0_2, c0_3, c0_4, c0_5, c0_6, c0_7, rc0, rc0a, rc0b, rc0c, rc0n]; done))
  have z19 := hx19.size
  try simp at z19
  replace rc0 : w13.heap.size < w19.heap.size := by omega
  replace rc0a : w13.heap.size < w19.heap.size + 1 := by omega
  replace rc0b : w13.heap.size < w19.heap.size + 1 + 1 := by omega
  replace rc0c : w13.heap.size < w19.heap.size + 1 + 1 + 1 := by omega
  replace rc0n : ¬ w13.heap.size = w19.heap.size := by omega
  replace HO := Lib.hid (HO.out.ext (Ext.trans (by repeat (first | with_reducible exact Ext.refl _ | with_reducible refine Ext.drew ?_ | with_reducible refine Ext.drewN ?_ _ | with_reducible refine Ext.alloc ?_ _ | with_reducible refine Ext.setCell ?_ (by first | omega | (simp; done) | (simp; omega)) _)) hx19))
  have X19 : Hid (Ext w w19) := Lib.hid (Ext.trans (by repeat (first | with_reducible exact X18.out | with_reducible refine Ext.drew ?_ | with_reducible refine Ext.drewN ?_ _ | with_reducible refine Ext.alloc ?_ _ | with_reducible refine Ext.setCell ?_ (by first | omega | (simp; done) | (simp; omega)) _)) hx19)
  clear X18 hx19 z19
  go_wp2_with fail
  (with_reducible refine (two14_any _).mono ?_)
  rintro e w20 ⟨rfl, hx20⟩
  replace c0_0 : w20.cell? ⟨w13.heap.size, 0, none⟩ = some (.int .i64 0) := hx20.has (by first | exact c0_0 | (simp [go_sem, World.cell?_alloc_past, c0_0, c0_1, c0_2, c0_3, c0_4, c0_5, c0_6, c0_7, rc0, rc0a, rc0b, rc0c, rc0n]; done))
  replace c0_1 : w20.cell? ⟨w13.heap.size, 1, none⟩ = some (.int .i64 2) := hx20.has (by first | exact c0_1 | (simp [go_sem, World.cell?_alloc_past, c0_0, c0_1, c0_2, c0_3, c0_4, c0_5, c0_6, c0_7, rc0, rc0a, rc0b, rc0c, rc0n]; done))
  replace c0_2 : w20.cell? ⟨w13.heap.size, 2, none⟩ = some (.int .i64 5) := hx20.has (by first | exact c0_2 | (simp [go_sem, World.cell?_alloc_past, c0_0, c0_1, c0_2, c0_3, c0_4, c0_5, c0_6, c0_7, rc0, rc0a, rc0b, rc0c, rc0n]; done))
  replace c0_3 : w20.cell? ⟨w13.heap.size, 3, none⟩ = some (.int .i64 (-1)) := hx20.has (by first | exact c0_3 | (simp [go_sem, World.cell?_alloc_past, c0_0, c0_1, c0_2, c0_3, c0_4, c0_5, c0_6, c0_7, rc0, rc0a, rc0b, rc0c, rc0n]; done))
  replace c0_4 : w20.cell? ⟨w13.heap.size, 4, none⟩ = some (.int .i64 0) := hx20.has (by first | exact c0_4 | (simp [go_sem, World.cell?_alloc_past, c0_0, c0_1, c0_2, c0_3, c0_4, c0_5, c0_6, c0_7, rc0, rc0a, rc0b, rc0c, rc0n]; done))
  replace c0_5 : w20.cell? ⟨w13.heap.size, 5, none⟩ = some (.int .i64 12) := hx20.has (by first | exact c0_5 | (simp [go_sem, World.cell?_alloc_past, c0_0, c0_1, c0_2, c0_3, c0_4, c0_5, c0_6, c0_7, rc0, rc0a, rc0b, rc0c, rc0n]; done))
  replace c0_6 : w20.cell? ⟨w13.heap.size, 6, none⟩ = some (.int .u64 3) := hx20.has (by first | exact c0_6 | (simp [go_sem, World.cell?_alloc_past, c0_0, c0_1, c0_2, c0_3, c0_4, c0_5, c0_6, c0_7, rc0, rc0a, rc0b, rc0c, rc0n]; done))
  replace c0_7 : w20.cell? ⟨w13.heap.size, 7, none⟩ = some (.int .u64 2) := hx20.has (by first | exact c0_7 | (simp [go_sem, World.cell?_alloc_past, c0_0, c0_1, c0_2, c0_3, c0_4, c0_5, c0_6, c0_7, rc0, rc0a, rc0b, rc0c, rc0n]; done))
  have z20 := hx20.size
  try simp at z20
  replace rc0 : w13.heap.size < w20.heap.size := by omega
  replace rc0a : w13.heap.size < w20.heap.size + 1 := by omega
  replace rc0b : w13.heap.size < w20.heap.size + 1 + 1 := by omega
  replace rc0c : w13.heap.size < w20.heap.size + 1 + 1 + 1 := by omega
  replace rc0n : ¬ w13.heap.size = w20.heap.size := by omega
  replace HO := Lib.hid (HO.out.ext (Ext.trans (by repeat (first | with_reducible exact Ext.refl _ | with_reducible refine Ext.drew ?_ | with_reducible refine Ext.drewN ?_ _ | with_reducible refine Ext.alloc ?_ _ | with_reducible refine Ext.setCell ?_ (by first | omega | (simp; done) | (simp; omega)) _)) hx20))
  have X20 : Hid (Ext w w20) := Lib.hid (Ext.trans (by repeat (first | with_reducible exact X19.out | with_reducible refine Ext.drew ?_ | with_reducible refine Ext.drewN ?_ _ | with_reducible refine Ext.alloc ?_ _ | with_reducible refine Ext.setCell ?_ (by first | omega | (simp; done) | (simp; omega)) _)) hx20)
  clear X19 hx20 z20
  go_wp2_with fail
  (with_reducible refine (entry14_any 0 2 5 (-1) 0 12 0 _).mono ?_)
  rintro e w21 ⟨rfl, hx21⟩
  replace c0_0 : w21.cell? ⟨w13.heap.size, 0, none⟩ = some (.int .i64 0) := hx21.has (by first | exact c0_0 | (simp [go_sem, World.cell?_alloc_past, c0_0, c0_1, c0_2, c0_3, c0_4, c0_5, c0_6, c0_7, rc0, rc0a, rc0b, rc0c, rc0n]; done))
  replace c0_1 : w21.cell? ⟨w13.heap.size, 1, none⟩ = some (.int .i64 2) := hx21.has (by first | exact c0_1 | (simp [go_sem, World.cell?_alloc_past, c0_0, c0_1, c0_2, c0_3, c0_4, c0_5, c0_6, c0_7, rc0, rc0a, rc0b, rc0c, rc0n]; done))
  replace c0_2 : w21.cell? ⟨w13.heap.size, 2, none⟩ = some (.int .i64 5) := hx21.has (by first | exact c0_2 | (simp [go_sem, World.cell?_alloc_past, c0_0, c0_1, c0_2, c0_3, c0_4, c0_5, c0_6, c0_7, rc0, rc0a, rc0b, rc0c, rc0n]; done))
  replace c0_3 : w21.cell? ⟨w13.heap.size, 3, none⟩ = some (.int .i64 (-1)) := hx21.has (by first | exact c0_3 | (simp [go_sem, World.cell?_alloc_past, c0_0, c0_1, c0_2, c0_3, c0_4, c0_5, c0_6, c0_7, rc0, rc0a, rc0b, rc0c, rc0n]; done))
  replace c0_4 : w21.cell? ⟨w13.heap.size, 4, none⟩ = some (.int .i64 0) := hx21.has (by first | exact c0_4 | (simp [go_sem, World.cell?_alloc_past, c0_0, c0_1, c0_2, c0_3, c0_4, c0_5, c0_6, c0_7, rc0, rc0a, rc0b, rc0c, rc0n]; done))
  replace c0_5 : w21.cell? ⟨w13.heap.size, 5, none⟩ = some (.int .i64 12) := hx21.has (by first | exact c0_5 | (simp [go_sem, World.cell?_alloc_past, c0_0, c0_1, c0_2, c0_3, c0_4, c0_5, c0_6, c0_7, rc0, rc0a, rc0b, rc0c, rc0n]; done))
  replace c0_6 : w21.cell? ⟨w13.heap.size, 6, none⟩ = some (.int .u64 3) := hx21.has (by first | exact c0_6 | (simp [go_sem, World.cell?_alloc_past, c0_0, c0_1, c0_2, c0_3, c0_4, c0_5, c0_6, c0_7, rc0, rc0a, rc0b, rc0c, rc0n]; done))
  replace c0_7 : w21.cell? ⟨w13.heap.size, 7, none⟩ = some (.int .u64 2) := hx21.has (by first | exact c0_7 | (simp [go_sem, World.cell?_alloc_past, c0_0, c0_1, c0_2, c0_3, c0_4, c0_5, c0_6, c0_7, rc0, rc0a, rc0b, rc0c, rc0n]; done))
  have z21 := hx21.size
  try simp at z21
  replace rc0 : w13.heap.size < w21.heap.size := by omega
  replace rc0a : w13.heap.size < w21.heap.size + 1 := by omega
  replace rc0b : w13.heap.size < w21.heap.size + 1 + 1 := by omega
  replace rc0c : w13.heap.size < w21.heap.size + 1 + 1 + 1 := by omega
  replace rc0n : ¬ w13.heap.size = w21.heap.size := by omega
  replace HO := Lib.hid (HO.out.ext (Ext.trans (by repeat (first | with_reducible exact Ext.refl _ | with_reducible refine Ext.drew ?_ | with_reducible refine Ext.drewN ?_ _ | with_reducible refine Ext.alloc ?_ _ | with_reducible refine Ext.setCell ?_ (by first | omega | (simp; done) | (simp; omega)) _)) hx21))
  have X21 : Hid (Ext w w21) := Lib.hid (Ext.trans (by repeat (first | with_reducible exact X20.out | with_reducible refine Ext.drew ?_ | with_reducible refine Ext.drewN ?_ _ | with_reducible refine Ext.alloc ?_ _ | with_reducible refine Ext.setCell ?_ (by first | omega | (simp; done) | (simp; omega)) _)) hx21)
  clear X20 hx21 z21
  go_wp2_with fail
  (with_reducible refine (adds14_ev 0 2 5 (-1) 0 12 0 0 2 14 [] _ (fitsQ_one (by decide)) (by decide)).mono ?_)
  rintro e w22 ⟨rfl, hx22⟩
  replace c0_0 : w22.cell? ⟨w13.heap.size, 0, none⟩ = some (.int .i64 0) := hx22.has (by first | exact c0_0 | (simp [go_sem, World.cell?_alloc_past, c0_0, c0_1, c0_2, c0_3, c0_4, c0_5, c0_6, c0_7, rc0, rc0a, rc0b, rc0c, rc0n]; done))
  replace c0_1 : w22.cell? ⟨w13.heap.size, 1, none⟩ = some (.int .i64 2) := hx22.has (by first | exact c0_1 | (simp [go_sem, World.cell?_alloc_past, c0_0, c0_1, c0_2, c0_3, c0_4, c0_5, c0_6, c0_7, rc0, rc0a, rc0b, rc0c, rc0n]; done))
  replace c0_2 : w22.cell? ⟨w13.heap.size, 2, none⟩ = some (.int .i64 5) := hx22.has (by first | exact c0_2 | (simp [go_sem, World.cell?_alloc_past, c0_0, c0_1, c0_2, c0_3, c0_4, c0_5, c0_6, c0_7, rc0, rc0a, rc0b, rc0c, rc0n]; done))
  replace c0_3 : w22.cell? ⟨w13.heap.size, 3, none⟩ = some (.int .i64 (-1)) := hx22.has (by first | exact c0_3 | (simp [go_sem, World.cell?_alloc_past, c0_0, c0_1, c0_2, c0_3, c0_4, c0_5, c0_6, c0_7, rc0, rc0a, rc0b, rc0c, rc0n]; done))
  replace c0_4 : w22.cell? ⟨w13.heap.size, 4, none⟩ = some (.int .i64 0) := hx22.has (by first | exact c0_4 | (simp [go_sem, World.cell?_alloc_past, c0_0, c0_1, c0_2, c0_3, c0_4, c0_5, c0_6, c0_7, rc0, rc0a, rc0b, rc0c, rc0n]; done))
  replace c0_5 : w22.cell? ⟨w13.heap.size, 5, none⟩ = some (.int .i64 12) := hx22.has (by first | exact c0_5 | (simp [go_sem, World.cell?_alloc_past, c0_0, c0_1, c0_2, c0_3, c0_4, c0_5, c0_6, c0_7, rc0, rc0a, rc0b, rc0c, rc0n]; done))
  replace c0_6 : w22.cell? ⟨w13.heap.size, 6, none⟩ = some (.int .u64 3) := hx22.has (by first | exact c0_6 | (simp [go_sem, World.cell?_alloc_past, c0_0, c0_1, c0_2, c0_3, c0_4, c0_5, c0_6, c0_7, rc0, rc0a, rc0b, rc0c, rc0n]; done))
  replace c0_7 : w22.cell? ⟨w13.heap.size, 7, none⟩ = some (.int .u64 2) := hx22.has (by first | exact c0_7 | (simp [go_sem, World.cell?_alloc_past, c0_0, c0_1, c0_2, c0_3, c0_4, c0_5, c0_6, c0_7, rc0, rc0a, rc0b, rc0c, rc0n]; done))
  have z22 := hx22.size
  try simp at z22
  replace rc0 : w13.heap.size < w22.heap.size := by omega
  replace rc0a : w13.heap.size < w22.heap.size + 1 := by omega
  replace rc0b : w13.heap.size < w22.heap.size + 1 + 1 := by omega
  replace rc0c : w13.heap.size < w22.heap.size + 1 + 1 + 1 := by omega
  replace rc0n : ¬ w13.heap.size = w22.heap.size := by omega
  replace HO := Lib.hid (HO.out.ext (Ext.trans (by repeat (first | with_reducible exact Ext.refl _ | with_reducible refine Ext.drew ?_ | with_reducible refine Ext.drewN ?_ _ | with_reducible refine Ext.alloc ?_ _ | with_reducible refine Ext.setCell ?_ (by first | omega | (simp; done) | (simp; omega)) _)) hx22))
  have X22 : Hid (Ext w w22) := Lib.hid (Ext.trans (by repeat (first | with_reducible exact X21.out | with_reducible refine Ext.drew ?_ | with_reducible refine Ext.drewN ?_ _ | with_reducible refine Ext.alloc ?_ _ | with_reducible refine Ext.setCell ?_ (by first | omega | (simp; done) | (simp; omega)) _)) hx22)
  clear X21 hx22 z22
  go_wp2_with fail
  (with_reducible refine (adds14_ev 0 2 5 (-1) 0 12 3 2 2 11 [] _ (fitsQ_one (by decide)) (by decide)).mono ?_)
  rintro e w23 ⟨rfl, hx23⟩
  have z23 := hx23.size
  try simp at z23
  replace HO := Lib.hid (HO.out.ext (Ext.trans (by repeat (first | with_reducible exact Ext.refl _ | with_reducible refine Ext.drew ?_ | with_reducible refine Ext.drewN ?_ _ | with_reducible refine Ext.alloc ?_ _ | with_reducible refine Ext.setCell ?_ (by first | omega | (simp; done) | (simp; omega)) _)) hx23))
  have X23 : Hid (Ext w w23) := Lib.hid (Ext.trans (by repeat (first | with_reducible exact X22.out | with_reducible refine Ext.drew ?_ | with_reducible refine Ext.drewN ?_ _ | with_reducible refine Ext.alloc ?_ _ | with_reducible refine Ext.setCell ?_ (by first | omega | (simp; done) | (simp; omega)) _)) hx23)
  clear c0_5 c0_6 c0_3 c0_2 c0_0 c0_4 c0_1 c0_7 rc0 rc0a rc0b rc0c rc0n X22 hx23 z23
  go_wp2_with fail
  (with_reducible refine (two14_any _).mono ?_)
  rintro e w24 ⟨rfl, hx24⟩
  have z24 := hx24.size
  try simp at z24
  replace HO := Lib.hid (HO.out.ext (Ext.trans (by repeat (first | with_reducible exact Ext.refl _ | with_reducible refine Ext.drew ?_ | with_reducible refine Ext.drewN ?_ _ | with_reducible refine Ext.alloc ?_ _ | with_reducible refine Ext.setCell ?_ (by first | omega | (simp; done) | (simp; omega)) _)) hx24))
  have X24 : Hid (Ext w w24) := Lib.hid (Ext.trans (by repeat (first | with_reducible exact X23.out | with_reducible refine Ext.drew ?_ | with_reducible refine Ext.drewN ?_ _ | with_reducible refine Ext.alloc ?_ _ | with_reducible refine Ext.setCell ?_ (by first | omega | (simp; done) | (simp; omega)) _)) hx24)
  clear X23 hx24 z24
  go_wp2_with fail
  (with_reducible refine (entry14_any 0 2 5 (-1) 0 12 3 _).mono ?_)
  rintro e w25 ⟨rfl, hx25⟩
  have z25 := hx25.size
  try simp at z25
  replace HO := Lib.hid (HO.out.ext (Ext.trans (by repeat (first | with_reducible exact Ext.refl _ | with_reducible refine Ext.drew ?_ | with_reducible refine Ext.drewN ?_ _ | with_reducible refine Ext.alloc ?_ _ | with_reducible refine Ext.setCell ?_ (by first | omega | (simp; done) | (simp; omega)) _)) hx25))
  have X25 : Hid (Ext w w25) := Lib.hid (Ext.trans (by repeat (first | with_reducible exact X24.out | with_reducible refine Ext.drew ?_ | with_reducible refine Ext.drewN ?_ _ | with_reducible refine Ext.alloc ?_ _ | with_reducible refine Ext.setCell ?_ (by first | omega | (simp; done) | (simp; omega)) _)) hx25)
  clear X24 hx25 z25
  go_wp2_with fail
  (with_reducible refine (adds14_ev 0 2 5 (-1) 0 12 3 3 17 3 [] _ (fitsQ_one (by decide)) (by decide)).mono ?_)
  rintro e w26 ⟨rfl, hx26⟩
  have z26 := hx26.size
  try simp at z26
  replace HO := Lib.hid (HO.out.ext (Ext.trans (by repeat (first | with_reducible exact Ext.refl _ | with_reducible refine Ext.drew ?_ | with_reducible refine Ext.drewN ?_ _ | with_reducible refine Ext.alloc ?_ _ | with_reducible refine Ext.setCell ?_ (by first | omega | (simp; done) | (simp; omega)) _)) hx26))
  have X26 : Hid (Ext w w26) := Lib.hid (Ext.trans (by repeat (first | with_reducible exact X25.out | with_reducible refine Ext.drew ?_ | with_reducible refine Ext.drewN ?_ _ | with_reducible refine Ext.alloc ?_ _ | with_reducible refine Ext.setCell ?_ (by first | omega | (simp; done) | (simp; omega)) _)) hx26)
  clear X25 hx26 z26
  go_wp2_with fail
  (with_reducible refine (qBytes_en A1 1 c1 [(0, 2, 5, -1, 0, 9, 10, 10)] [1, 0, 2, 5, 0, 0, 9, 10, 10] 0 9 _ (by have h := Sl.take (OwnEnt.sl (HO.out.ext (by repeat (first | with_reducible exact Ext.refl _ | with_reducible refine Ext.drew ?_ | with_reducible refine Ext.drewN ?_ _ | with_reducible refine Ext.alloc ?_ _ | with_reducible refine Ext.setCell ?_ (by first | omega | (simp; done) | (simp; omega)) _)))) (show 1 ≤ 3 from by decide); have e : (chapQ.flatMap entC).take (1 * 8) = [((0 : Int), (2 : Int), (5 : Int), (-1 : Int), (0 : Int), (9 : Int), (10 : Int), (10 : Int))].flatMap entC := rfl; rw [e] at h; exact h) (fitsQ_of (by decide)) (by decide) que_one rfl).mono ?_)
  rintro e w27 ⟨A10, c10, rfl, _, hO10, hx27⟩
  have z27 := hx27.size
  try simp at z27
  have X27 : Hid (Ext w w27) := Lib.hid (Ext.trans (by repeat (first | with_reducible exact X26.out | with_reducible refine Ext.drew ?_ | with_reducible refine Ext.drewN ?_ _ | with_reducible refine Ext.alloc ?_ _ | with_reducible refine Ext.setCell ?_ (by first | omega | (simp; done) | (simp; omega)) _)) hx27)
  have HY := Lib.hid hO10
  clear HO X26 hx27 z27 hO10
  go_wp2_with fail
  (with_reducible refine (qRead_en _ 9 9 [1, 0, 2, 5, 0, 0, 4, 1, 1] [] 9 1 0 _ (byt_ofQ rfl) (by_newQ _ [1, 0, 2, 5, 0, 0, 4, 1, 1] 9 _ _ (by first | rfl | (simp [by_]; done)) (by first | rfl | (simp; done)) rfl (by omega)) rfl (by decide) (fun h => by cases h) rfl rfl).mono ?_)
  rintro e w28 ⟨A11, c9A11, rfl, _, _, hx28⟩
  have z28 := hx28.size
  try simp at z28
  replace HY := Lib.hid (HY.out.ext (Ext.trans (by repeat (first | with_reducible exact Ext.refl _ | with_reducible refine Ext.drew ?_ | with_reducible refine Ext.drewN ?_ _ | with_reducible refine Ext.alloc ?_ _ | with_reducible refine Ext.setCell ?_ (by first | omega | (simp; done) | (simp; omega)) _)) hx28))
  have X28 : Hid (Ext w w28) := Lib.hid (Ext.trans (by repeat (first | with_reducible exact X27.out | with_reducible refine Ext.drew ?_ | with_reducible refine Ext.drewN ?_ _ | with_reducible refine Ext.alloc ?_ _ | with_reducible refine Ext.setCell ?_ (by first | omega | (simp; done) | (simp; omega)) _)) hx28)
  clear X27 hx28 z28
  go_wp2_with fail
  (with_reducible refine (qRead_en _ 2 2 [1, 64] [] 3 1 0 _ (byt_ofQ rfl) (by_newQ _ [1, 64] 2 _ _ (by first | rfl | (simp [by_]; done)) (by first | rfl | (simp; done)) rfl (by omega)) rfl (by decide) (fun h => by cases h) rfl rfl).mono ?_)
  rintro e w29 ⟨A12, c9A12, rfl, _, _, hx29⟩
  have c2_0 : w29.cell? ⟨w28.heap.size, 0, none⟩ = some (.int .i64 9) := hx29.has (by first | fail | (simp [go_sem, World.cell?_alloc_past]; done))
  have c2_1 : w29.cell? ⟨w28.heap.size, 1, none⟩ = some (.int .i64 1) := hx29.has (by first | fail | (simp [go_sem, World.cell?_alloc_past]; done))
  have z29 := hx29.size
  try simp at z29
  have rc2 : w28.heap.size < w29.heap.size := by omega
  have rc2a : w28.heap.size < w29.heap.size + 1 := by omega
  have rc2b : w28.heap.size < w29.heap.size + 1 + 1 := by omega
  have rc2c : w28.heap.size < w29.heap.size + 1 + 1 + 1 := by omega
  have rc2n : ¬ w28.heap.size = w29.heap.size := by omega
  replace HY := Lib.hid (HY.out.ext (Ext.trans (by repeat (first | with_reducible exact Ext.refl _ | with_reducible refine Ext.drew ?_ | with_reducible refine Ext.drewN ?_ _ | with_reducible refine Ext.alloc ?_ _ | with_reducible refine Ext.setCell ?_ (by first | omega | (simp; done) | (simp; omega)) _)) hx29))
  have X29 : Hid (Ext w w29) := Lib.hid (Ext.trans (by repeat (first | with_reducible exact X28.out | with_reducible refine Ext.drew ?_ | with_reducible refine Ext.drewN ?_ _ | with_reducible refine Ext.alloc ?_ _ | with_reducible refine Ext.setCell ?_ (by first | omega | (simp; done) | (simp; omega)) _)) hx29)
  clear X28 hx29 z29
  go_wp2_with fail
  (with_reducible refine (kSameBytes_eq A10 _ 9 c10 9 9 [1, 0, 2, 5, 0, 0, 9, 10, 10] (byt_ofQ rfl) _ (HY.out.ext (by repeat (first | with_reducible exact Ext.refl _ | with_reducible refine Ext.drew ?_ | with_reducible refine Ext.drewN ?_ _ | with_reducible refine Ext.alloc ?_ _ | with_reducible refine Ext.setCell ?_ (by first | omega | (simp; done) | (simp; omega)) _))).sl (by_newQ _ [1, 0, 2, 5, 0, 0, 9, 10, 10] 9 _ _ (by first | rfl | (simp [by_]; done)) (by first | rfl | (simp; done)) rfl (by omega))).mono ?_)
  rintro e w_1 ⟨rfl, rfl⟩
  go_wp2_with fail
  (with_reducible refine (awake14_any _).mono ?_)
  rintro e w30 ⟨rfl, hx30⟩
  have z30 := hx30.size
  try simp at z30
  replace HY := Lib.hid (HY.out.ext (Ext.trans (by repeat (first | with_reducible exact Ext.refl _ | with_reducible refine Ext.drew ?_ | with_reducible refine Ext.drewN ?_ _ | with_reducible refine Ext.alloc ?_ _ | with_reducible refine Ext.setCell ?_ (by first | omega | (simp; done) | (simp; omega)) _)) hx30))
  have X30 : Hid (Ext w w30) := Lib.hid (Ext.trans (by repeat (first | with_reducible exact X29.out | with_reducible refine Ext.drew ?_ | with_reducible refine Ext.drewN ?_ _ | with_reducible refine Ext.alloc ?_ _ | with_reducible refine Ext.setCell ?_ (by first | omega | (simp; done) | (simp; omega)) _)) hx30)
  clear c2_1 c2_0 rc2 rc2a rc2b rc2c rc2n X29 hx30 z30
  go_wp2_with fail
  go_ret
  exact ⟨rfl, (by repeat (first | with_reducible exact X30.out | with_reducible refine Ext.drew ?_ | with_reducible refine Ext.drewN ?_ _ | with_reducible refine Ext.alloc ?_ _ | with_reducible refine Ext.setCell ?_ (by first | omega | (simp; done) | (simp; omega)) _))⟩
end
section
open Go.RowKit
theorem ruq_put {L rest : List Nat} {k m : Nat} (hL : L.drop k = putL m ++ rest) (hm : m < 18446744073709551616) : ruV L k none = m ∧ ruK L k none = k + (putL m).length ∧ ruF L k none = none := by
  have e := numGo_putL m m 0 0 rest (Nat.le_refl _) (fun h => absurd h (by omega)) (by omega) (by omega)
  rw [← hL] at e
  have e0 : ruE L k = 0 := by unfold ruE; rw [e]
  unfold ruV ruK ruF
  rw [e0, e]
  simp [failF]
theorem ruq_back {L : List Nat} (hB : Byt L) {k : Nat} (h : ruF L k none = none) : ∃ m rest, L.drop k = putL m ++ rest ∧ ruV L k none = (m : Int) ∧ ruK L k none = k + (putL m).length ∧ m < 18446744073709551616 := by
  have e0 : ruE L k = 0 := by
    unfold ruF at h
    rw [if_pos rfl] at h
    exact (failF_none h).2
  obtain ⟨n, k', e, hx⟩ : ∃ n k' e, numGo (L.drop k) 0 0 = (n, k', e) := ⟨_, _, _, rfl⟩
  have hb := e0
  unfold ruE at hb
  rw [hx] at hb
  simp only at hb
  subst hb
  have hBd : Byt (L.drop k) := fun x hx => hB x (List.mem_of_mem_drop hx)
  obtain ⟨m, rest, hL, hn, hk, _⟩ := numGo_back (L.drop k) 0 0 n k' hBd hx
  have hlt := numGo_lt' (L.drop k) 0 0 (by omega) (by decide) hBd
  rw [hx] at hlt
  simp at hn hk hlt
  subst hn; subst hk
  unfold ruV ruK
  rw [e0, hx]
  exact ⟨n, rest, hL, by simp, by simp, hlt⟩
theorem ruq_none {L : List Nat} {k : Nat} {f : Option (Int × Int)} (h : ruF L k f = none) : f = none := by
  cases f with
  | none => rfl
  | some x => rw [ruF_s] at h; cases h
theorem tkF_none {L : List Nat} {k : Nat} {f : Option (Int × Int)} (h : tkF L (k, f) = none) : f = none := by
  cases f with
  | none => rfl
  | some x => rw [tkF_s] at h; cases h
theorem takeq_put {L p rest : List Nat} {k : Nat} (h : L.drop k = p ++ rest) : L.take (k + p.length) = L.take k ++ p ∧ L.drop (k + p.length) = rest := by
  refine ⟨?_, ?_⟩
  · rw [List.take_add, h, List.take_left]
  · rw [← List.drop_drop, h, List.drop_left]
theorem nuB4 (a b c d : Int) : nuB [a, b, c, d] = putL a.toNat ++ (putL b.toNat ++ (putL c.toNat ++ putL d.toNat)) := by simp [nuB]
theorem stl_nuB (V S P F : Int) : nuB (stL V S P F) = putL V.toNat ++ (putL S.toNat ++ (putL (P + 1).toNat ++ putL F.toNat)) := nuB4 _ _ _ _
theorem entB_eq (x : (Int × Int × Int × Int × Int × Int × Int × Int)) : entB x = putL x.1.toNat ++ (nuB (stL x.2.1 x.2.2.1 x.2.2.2.1 x.2.2.2.2.1) ++ (putL x.2.2.2.2.2.1.toNat ++ (putL x.2.2.2.2.2.2.1.toNat ++ putL x.2.2.2.2.2.2.2.toNat))) := by
  rw [stl_nuB]
  simp [entB, entN, nuB]
/-- a stamp that was written is taken -/
theorem tkq_put {L rest : List Nat} {k : Nat} {V S P F : Int} (h : chkS V S P F = 0) (hL : L.drop k = nuB (stL V S P F) ++ rest) :
    tk4 L (k, none) = (k + (nuB (stL V S P F)).length, none) ∧ tkA L (k, none) = V ∧ tkB L (k, none) = S ∧ tkC L (k, none) = P + 1 ∧ tkD L (k, none) = F ∧ tkF L (k, none) = none ∧ tkZ L (k, none) = false := by
  obtain ⟨v0, v1, s0, s1, p0, p1, f0, f1, _, _, _⟩ := chkS_ok h
  have hlen : (nuB (stL V S P F)).length = (putL V.toNat).length + ((putL S.toNat).length + ((putL (P + 1).toNat).length + (putL F.toNat).length)) := by rw [stl_nuB]; simp only [List.length_append]
  rw [stl_nuB] at hL
  simp only [List.append_assoc] at hL
  obtain ⟨a1, a2, a3⟩ := tk_put (L := L) (k := k) (lo := 0) (hi := 31) hL (by omega) (by omega) (by omega)
  obtain ⟨b1, b2, b3⟩ := tk_put (lo := 1) (hi := 4294967296) a3 (by omega) (by omega) (by omega)
  obtain ⟨c1, c2, c3⟩ := tk_put (lo := 0) (hi := 32) b3 (by omega) (by omega) (by omega)
  obtain ⟨d1, d2, d3⟩ := tk_put (lo := 0) (hi := 4294967296) c3 (by omega) (by omega) (by omega)
  have e1 : tk1 L (k, none) = (k + (putL V.toNat).length, none) := a1
  have e2 : tk2 L (k, none) = (k + (putL V.toNat).length + (putL S.toNat).length, none) := by unfold tk2; rw [e1]; exact b1
  have e3 : tk3 L (k, none) = (k + (putL V.toNat).length + (putL S.toNat).length + (putL (P + 1).toNat).length, none) := by unfold tk3; rw [e2]; exact c1
  have e4 : tk4 L (k, none) = (k + (nuB (stL V S P F)).length, none) := by
    have : tk4 L (k, none) = (k + (putL V.toNat).length + (putL S.toNat).length + (putL (P + 1).toNat).length + (putL F.toNat).length, none) := by unfold tk4; rw [e3]; exact d1
    rw [this, hlen, Prod.mk.injEq]
    exact ⟨by omega, rfl⟩
  have ea : tkA L (k, none) = V := by unfold tkA; rw [a2]; omega
  have eb : tkB L (k, none) = S := by unfold tkB; rw [e1, b2]; omega
  have ec : tkC L (k, none) = P + 1 := by unfold tkC; rw [e2, c2]; omega
  have ed : tkD L (k, none) = F := by unfold tkD; rw [e3, d2]; omega
  have hf : tkF L (k, none) = none := by
    unfold tkF
    rw [e4, ea, eb, ec, ed, fltB_none_ok, show P + 1 - 1 = P from by omega, h]
    simp [failF]
  refine ⟨e4, ea, eb, ec, ed, hf, ?_⟩
  unfold tkZ
  rw [hf, fltB_none_ok]
/-- a stamp that was taken -/
theorem tkq_back {L : List Nat} (hB : Byt L) {k : Nat} (h : tkF L (k, none) = none) :
    ∃ rest, L.drop k = nuB (stL (tkA L (k, none)) (tkB L (k, none)) (tkC L (k, none) - 1) (tkD L (k, none))) ++ rest ∧ (tk4 L (k, none)).1 = k + (nuB (stL (tkA L (k, none)) (tkB L (k, none)) (tkC L (k, none) - 1) (tkD L (k, none)))).length ∧ tkZ L (k, none) = false := by
  have hz : tkZ L (k, none) = false := by unfold tkZ; rw [h, fltB_none_ok]
  have h4 : (tk4 L (k, none)).2 = none := by
    unfold tkF at h
    split at h
    · exact h
    · exact (failF_none h).1
  have h3 : (tk3 L (k, none)).2 = none := rnF_none (show rnF L _ (tk3 L (k, none)).2 _ _ = none from h4)
  have h2 : (tk2 L (k, none)).2 = none := rnF_none (show rnF L _ (tk2 L (k, none)).2 _ _ = none from h3)
  have h1 : (tk1 L (k, none)).2 = none := rnF_none (show rnF L _ (tk1 L (k, none)).2 _ _ = none from h2)
  obtain ⟨a, r1, a1, a2, a3, a4⟩ := tk_back hB (by decide) (show (tkS L (k, none) 0 31).2 = none from h1)
  have e1 : tk1 L (k, none) = (k + (putL a).length, none) := a3
  have h2' := h2; unfold tk2 at h2'; rw [e1] at h2'
  obtain ⟨b, r2, b1, b2, b3, b4⟩ := tk_back hB (by decide) h2'
  have e2 : tk2 L (k, none) = (k + (putL a).length + (putL b).length, none) := by unfold tk2; rw [e1]; exact b3
  have h3' := h3; unfold tk3 at h3'; rw [e2] at h3'
  obtain ⟨c, r3, c1, c2, c3, c4⟩ := tk_back hB (by decide) h3'
  have e3 : tk3 L (k, none) = (k + (putL a).length + (putL b).length + (putL c).length, none) := by unfold tk3; rw [e2]; exact c3
  have h4' := h4; unfold tk4 at h4'; rw [e3] at h4'
  obtain ⟨d, r4, d1, d2, d3, d4⟩ := tk_back hB (by decide) h4'
  have e4 : tk4 L (k, none) = (k + (putL a).length + (putL b).length + (putL c).length + (putL d).length, none) := by unfold tk4; rw [e3]; exact d3
  have ea : tkA L (k, none) = a := a2
  have eb : tkB L (k, none) = b := by unfold tkB; rw [e1]; exact b2
  have ec : tkC L (k, none) = c := by unfold tkC; rw [e2]; exact c2
  have ed : tkD L (k, none) = d := by unfold tkD; rw [e3]; exact d2
  have e5 : nuB (stL (tkA L (k, none)) (tkB L (k, none)) (tkC L (k, none) - 1) (tkD L (k, none))) = putL a ++ (putL b ++ (putL c ++ putL d)) := by
    rw [stl_nuB, ea, eb, ec, ed, show (c : Int) - 1 + 1 = c from by omega, Int.toNat_natCast, Int.toNat_natCast, Int.toNat_natCast, Int.toNat_natCast]
  refine ⟨r4, ?_, ?_, hz⟩
  · rw [e5, a1, ← a4, b1, ← b4, c1, ← c4, d1]
    simp only [List.append_assoc]
  · rw [e5, e4]
    simp only [List.length_append]
    omega
/-- an entry that was written is read -/
theorem qRdX_put {L rest : List Nat} {k : Nat} {a : Int} {x : (Int × Int × Int × Int × Int × Int × Int × Int)} (hL : L.drop k = entB x ++ rest) (h : oneQ x a = 0) (hf : FitsQ x) : qRdX L k none = (k + (entB x).length, none, x) := by
  obtain ⟨h1, h2, h3, h4, h5, h6, h7, h8, h9⟩ := oneG_cases h
  have hi := hf.2.2.2.2.2.2.1
  have hb := hf.2.2.2.2.2.2.2
  have hlen : (entB x).length = (putL x.1.toNat).length + ((nuB (stL x.2.1 x.2.2.1 x.2.2.2.1 x.2.2.2.2.1)).length + ((putL x.2.2.2.2.2.1.toNat).length + ((putL x.2.2.2.2.2.2.1.toNat).length + (putL x.2.2.2.2.2.2.2.toNat).length))) := by rw [entB_eq]; simp only [List.length_append]
  obtain ⟨xo, xv, xs, xp, xf, xc, xi, xb⟩ := x
  rw [entB_eq] at hL
  simp only [List.append_assoc] at hL h1 h2 h3 h4 h5 h6 h7 h8 h9 hi hb hlen
  unfold Word at hi hb
  obtain ⟨v1, k1, f1⟩ := rn_put (lo := 0) (hi := 63) hL (by omega) (by omega) (by omega)
  have d1 := (takeq_put hL).2
  obtain ⟨t4, ta, tb, tc, td, tf, tz⟩ := tkq_put h3 d1
  have d2 := (takeq_put d1).2
  obtain ⟨v3, k3, f3⟩ := rn_put (lo := 1) (hi := 4294967296) d2 (by omega) (by omega) (by omega)
  have d3 := (takeq_put d2).2
  obtain ⟨v4, k4, f4⟩ := ruq_put d3 (by omega)
  have d4 := (takeq_put d3).2
  obtain ⟨v5, k5, f5⟩ := ruq_put d4 (by omega)
  unfold qRdX
  simp only [v1, k1, f1, t4, ta, tb, tc, td, tf, tz, v3, k3, f3, v4, k4, f4, v5, k5, f5]
  rw [Int.toNat_of_nonneg (by omega : 0 ≤ xo), Int.toNat_of_nonneg (by omega : 0 ≤ xc), Int.toNat_of_nonneg (by omega : 0 ≤ xi), Int.toNat_of_nonneg (by omega : 0 ≤ xb)]
  simp only [Prod.mk.injEq, hlen]
  refine ⟨by omega, ?_⟩
  simp
/-- an entry that was read -/
theorem qRdX_back {L : List Nat} (hB : Byt L) {k : Nat} (h : (qRdX L k none).2.1 = none) : ∃ rest, L.drop k = entB (qRdX L k none).2.2 ++ rest ∧ (qRdX L k none).1 = k + (entB (qRdX L k none).2.2).length := by
  obtain ⟨k1, hk1⟩ : ∃ v, v = rnK L k none 0 63 := ⟨_, rfl⟩
  obtain ⟨f1, hf1⟩ : ∃ v, v = rnF L k none 0 63 := ⟨_, rfl⟩
  obtain ⟨k2, hk2⟩ : ∃ v, v = (tk4 L (k1, f1)).1 := ⟨_, rfl⟩
  obtain ⟨f2, hf2⟩ : ∃ v, v = tkF L (k1, f1) := ⟨_, rfl⟩
  obtain ⟨k3, hk3⟩ : ∃ v, v = rnK L k2 f2 1 4294967296 := ⟨_, rfl⟩
  obtain ⟨f3, hf3⟩ : ∃ v, v = rnF L k2 f2 1 4294967296 := ⟨_, rfl⟩
  obtain ⟨k4, hk4⟩ : ∃ v, v = ruK L k3 f3 := ⟨_, rfl⟩
  obtain ⟨f4, hf4⟩ : ∃ v, v = ruF L k3 f3 := ⟨_, rfl⟩
  have e := qRdX_eq rfl hk1 hf1 rfl rfl rfl rfl hk2 hf2 rfl hk3 hf3 rfl hk4 hf4 rfl rfl rfl
  rw [e] at h ⊢
  simp only at h ⊢
  have g4 := ruq_none h
  rw [g4] at h hf4
  have g3 := ruq_none hf4.symm
  rw [g3] at hf4 hf3 hk4
  have g2 := rnF_none hf3.symm
  rw [g2] at hf3 hf2 hk3
  have g1 := tkF_none hf2.symm
  rw [g1] at hf2 hf1 hk2
  obtain ⟨m1, r1, d1, v1, e1, _, _⟩ := rn_back hB (by decide) hf1.symm
  rw [e1] at hk1
  obtain ⟨r2, d2, e2, z2⟩ := tkq_back hB hf2.symm
  rw [e2] at hk2
  obtain ⟨m3, r3, d3, v3, e3, _, _⟩ := rn_back hB (by decide) hf3.symm
  rw [e3] at hk3
  obtain ⟨m4, r4, d4, v4, e4, _⟩ := ruq_back hB hf4.symm
  rw [e4] at hk4
  obtain ⟨m5, r5, d5, v5, e5, _⟩ := ruq_back hB h
  rw [g1, g2, g3, g4, z2, v1, v3, v4, v5, e5]
  simp only [Bool.false_eq_true, if_false]
  have q1 := (takeq_put d1).2
  rw [← hk1, d2] at q1
  have q2 := (takeq_put d2).2
  rw [← hk2, d3] at q2
  have q3 := (takeq_put d3).2
  rw [← hk3, d4] at q3
  have q4 := (takeq_put d4).2
  rw [← hk4, d5] at q4
  refine ⟨r5, ?_, ?_⟩
  · rw [entB_eq, d1]
    simp only [Int.toNat_natCast]
    rw [← q1, ← q2, ← q3, ← q4]
    simp only [List.append_assoc]
  · rw [entB_eq]
    simp only [Int.toNat_natCast, List.length_append]
    omega
/-- a list whose entries may be each behind the one ahead -/
theorem chkGo_each {l : List (Int × Int × Int × Int × Int × Int × Int × Int)} (h : (chkGo 0 0 l).1 = 0) : ∀ j, j ≤ l.length → (chkGo (lastQ (l.take j)) j (l.drop j)).1 = 0 ∧ ∀ i x, i < j → l[i]? = some x → oneQ x (lastQ (l.take i)) = 0
  | 0, _ => ⟨h, fun i x hi => absurd hi (by omega)⟩
  | j + 1, hj => by
    obtain ⟨h1, h2⟩ := chkGo_each h j (by omega)
    obtain ⟨x, hx⟩ : ∃ x, l[j]? = some x := ⟨_, List.getElem?_eq_getElem (show j < l.length from by omega)⟩
    rw [chkGo_at hx] at h1
    by_cases hz : oneQ x (lastQ (l.take j)) = 0
    · rw [if_neg (by simpa using hz)] at h1
      refine ⟨by rw [lastQ_take hx]; exact h1, fun i y hi hy => ?_⟩
      rcases Nat.lt_or_ge i j with hij | hij
      · exact h2 i y hij hy
      · obtain rfl : i = j := by omega
        rw [hx] at hy
        obtain rfl := Option.some.inj hy
        exact hz
    · rw [if_pos hz] at h1
      exact absurd h1 hz
theorem chkGo_snoc : ∀ {l : List (Int × Int × Int × Int × Int × Int × Int × Int)} {x : (Int × Int × Int × Int × Int × Int × Int × Int)} {a : Int} {k : Nat}, (chkGo a k l).1 = 0 → oneQ x ((l.getLast?.map crE).getD a) = 0 → (chkGo a k (l ++ [x])).1 = 0
  | [], x, a, k, _, h => by
    show (chkGo a k [x]).1 = 0
    unfold chkGo
    rw [if_neg (by simpa using h)]
    rfl
  | y :: l, x, a, k, h1, h2 => by
    show (chkGo a k (y :: (l ++ [x]))).1 = 0
    unfold chkGo at h1 ⊢
    by_cases hy : oneQ y a = 0
    · rw [if_neg (by simpa using hy)] at h1 ⊢
      refine chkGo_snoc h1 ?_
      have e : ((y :: l).getLast?.map crE).getD a = (l.getLast?.map crE).getD (crE y) := by
        cases l with
        | nil => rfl
        | cons z l => rw [List.getLast?_cons_cons, List.getLast?_eq_some_getLast (by simp)]; rfl
      rw [← e]
      exact h2
    · rw [if_pos hy] at h1
      exact absurd h1 hy
theorem chkQ_parts {l : List (Int × Int × Int × Int × Int × Int × Int × Int)} (h : (chkQ l).1 = 0) : l.length ≤ 32768 ∧ (chkGo 0 0 l).1 = 0 ∧ totB l ≤ 4611686018427387904 := by
  unfold chkQ at h
  by_cases h1 : 32768 < l.length
  · rw [if_pos h1] at h; cases h
  · rw [if_neg h1] at h
    by_cases h2 : (chkGo 0 0 l).1 = 0
    · rw [if_neg (by simpa using h2)] at h
      by_cases h3 : totB l ≤ 4611686018427387904
      · exact ⟨by omega, h2, h3⟩
      · rw [if_neg h3] at h; cases h
    · rw [if_pos h2] at h; exact absurd h h2
theorem chkQ_mk {l : List (Int × Int × Int × Int × Int × Int × Int × Int)} (h1 : l.length ≤ 32768) (h2 : (chkGo 0 0 l).1 = 0) (h3 : totB l ≤ 4611686018427387904) : chkQ l = (0, 0) := by
  unfold chkQ
  rw [if_neg (by omega), if_neg (by simpa using h2), if_pos h3]
theorem qRd_put {l : List (Int × Int × Int × Int × Int × Int × Int × Int)} (hc : (chkQ l).1 = 0) (hf : ∀ x ∈ l, FitsQ x) : ∀ j, j ≤ l.length → qRd (queB l) (qS0 (queB l)) j = ((putL l.length ++ (l.take j).flatMap entB).length, none, l.take j)
  | 0, _ => by
    obtain ⟨h32, _, _⟩ := chkQ_parts hc
    have hB : queB l = putL l.length ++ l.flatMap entB := by unfold queB; exact if_pos hc
    obtain ⟨v, k, f⟩ := rn_put (L := queB l) (k := 0) (lo := 0) (hi := 32768) (by rw [List.drop_zero]; exact hB) (by omega) (by omega) (by omega)
    show qS0 (queB l) = _
    unfold qS0
    rw [k, f]
    simp
  | j + 1, hj => by
    obtain ⟨h32, hgo, _⟩ := chkQ_parts hc
    have hB : queB l = putL l.length ++ l.flatMap entB := by unfold queB; exact if_pos hc
    have hlt : j < l.length := by omega
    have hx := List.getElem?_eq_getElem hlt
    have hone := (chkGo_each hgo (j + 1) (by omega)).2 j _ (by omega) hx
    rw [qRd, qRd_put hc hf j (by omega)]
    have hd : (queB l).drop (putL l.length ++ (l.take j).flatMap entB).length = entB l[j] ++ (l.drop (j + 1)).flatMap entB := by
      have e : queB l = (putL l.length ++ (l.take j).flatMap entB) ++ (entB l[j] ++ (l.drop (j + 1)).flatMap entB) := by
        have e1 : l = l.take j ++ l[j] :: l.drop (j + 1) := by rw [← List.drop_eq_getElem_cons hlt, List.take_append_drop]
        have e2 : l.flatMap entB = (l.take j).flatMap entB ++ (entB l[j] ++ (l.drop (j + 1)).flatMap entB) := by
          conv => lhs; rw [e1]
          rw [List.flatMap_append, List.flatMap_cons]
        rw [hB, e2, List.append_assoc]
      rw [e, List.drop_left]
    have hr := qRdX_put hd hone (hf _ (List.getElem_mem hlt))
    unfold qRd1
    simp only [hr]
    rw [if_pos trivial, hone, List.take_succ_eq_append_getElem hlt]
    refine Prod.ext ?_ rfl
    simp only [List.flatMap_append, List.flatMap_cons, List.flatMap_nil, List.append_nil, List.length_append]
    omega
/-- what was written is read -/
theorem queRV_put {l : List (Int × Int × Int × Int × Int × Int × Int × Int)} (hc : (chkQ l).1 = 0) (hf : ∀ x ∈ l, FitsQ x) : queRV (queB l) = (l, 0, 0) := by
  obtain ⟨h32, _, ht⟩ := chkQ_parts hc
  have hB : queB l = putL l.length ++ l.flatMap entB := by unfold queB; exact if_pos hc
  obtain ⟨v, _, _⟩ := rn_put (L := queB l) (k := 0) (lo := 0) (hi := 32768) (by rw [List.drop_zero]; exact hB) (by omega) (by omega) (by omega)
  unfold queRV
  rw [v, show ((l.length : Nat) : Int).toNat = l.length from by simp, qRd_put hc hf l.length (Nat.le_refl _), List.take_length, ← hB]
  unfold qEnd endF
  simp [ht]
theorem qRd_back {L : List Nat} (hB : Byt L) : ∀ j, (qRd L (qS0 L) j).2.1 = none → ∃ k out, qRd L (qS0 L) j = (k, none, out) ∧ L.take k = putL (rnV L 0 none 0 32768).toNat ++ out.flatMap entB ∧ out.length = j ∧ (chkGo 0 0 out).1 = 0 ∧ (∀ x ∈ out, FitsQ x)
  | 0, h => by
    have h' : rnF L 0 none 0 32768 = none := h
    obtain ⟨m, rest, d, v, k, _, _⟩ := rn_back hB (by decide) h'
    refine ⟨rnK L 0 none 0 32768, [], ?_, ?_, rfl, rfl, fun x hx => by simp at hx⟩
    · show qS0 L = _
      unfold qS0
      rw [h']
    · rw [k, v, (takeq_put d).1]
      simp
  | j + 1, h => by
    have h1 : (qRd L (qS0 L) j).2.1 = none := by
      cases hf : (qRd L (qS0 L) j).2.1 with
      | none => rfl
      | some x => rw [qRd, qRd1_some hf, hf] at h; cases h
    obtain ⟨k, out, e, ht, hl, hb, hw⟩ := qRd_back hB j h1
    rw [qRd, e] at h
    have hst : qRd1 L (k, none, out) = if (qRdX L k none).2.1 = none then ((qRdX L k none).1, failF none (oneQ (qRdX L k none).2.2 (lastQ out)) (k : Int), out ++ [(qRdX L k none).2.2]) else ((qRdX L k none).1, (qRdX L k none).2.1, out) := rfl
    rw [hst] at h
    by_cases hn : (qRdX L k none).2.1 = none
    · rw [if_pos hn] at h
      have hev := (failF_none (show failF none (oneQ (qRdX L k none).2.2 (lastQ out)) (k : Int) = none from h)).2
      obtain ⟨rest, d, hk⟩ := qRdX_back hB hn
      refine ⟨(qRdX L k none).1, out ++ [(qRdX L k none).2.2], ?_, ?_, by simp [hl], chkGo_snoc hb hev, ?_⟩
      · rw [qRd, e, hst, if_pos hn, hev]
        rfl
      · rw [hk, (takeq_put d).1, ht, List.flatMap_append]
        simp
      · intro y hy
        rcases List.mem_append.1 hy with hy | hy
        · exact hw y hy
        · rw [List.mem_singleton.1 hy]
          exact qRdX_fits L k none
    · rw [if_neg hn] at h
      exact absurd h hn
theorem qRd_nz (L : List Nat) : ∀ j, FltNz (qRd L (qS0 L) j).2.1
  | 0 => FltNz.none.rn _ _ _ _
  | j + 1 => by
    have ih := qRd_nz L j
    show FltNz (qRd1 L (qRd L (qS0 L) j)).2.1
    unfold qRd1
    split
    · exact ih
    · split
      · exact FltNz.none.fail _ _
      · exact qRdX_nz FltNz.none
/-- what is read was written -/
theorem queRV_back {L : List Nat} (hB : Byt L) (h : (queRV L).2.1 = 0) : chkQ (queRV L).1 = (0, 0) ∧ queB (queRV L).1 = L ∧ (queRV L).2.2 = 0 ∧ (∀ x ∈ (queRV L).1, FitsQ x) := by
  have hn := rnV_in L 0 none 0 32768 (by decide)
  obtain ⟨S, hS⟩ : ∃ S, S = qRd L (qS0 L) (rnV L 0 none 0 32768).toNat := ⟨_, rfl⟩
  have hz : FltNz S.2.1 := by rw [hS]; exact qRd_nz L _
  have hR : queRV L = qEnd L S := by rw [hS]; rfl
  rw [hR] at h ⊢
  unfold qEnd at h ⊢
  by_cases hE : (endF S.2.1 S.1 L.length).1 ≠ 0
  · rw [if_pos hE] at h
    exact absurd h hE
  · rw [if_neg hE] at h ⊢
    by_cases ht : totB S.2.2 ≤ 4611686018427387904
    · rw [if_pos ht]
      obtain ⟨hf, hk⟩ := endF_zero hz (by simpa using hE)
      obtain ⟨k, out, e1, htk, hl, hb, hw⟩ := qRd_back hB (rnV L 0 none 0 32768).toNat (by rw [← hS]; exact hf)
      rw [← hS] at e1
      rw [e1] at hk ht ⊢
      simp only at hk ht ⊢
      have hc : chkQ out = (0, 0) := chkQ_mk (by omega) hb ht
      refine ⟨hc, ?_, by first | trivial | rfl, hw⟩
      unfold queB
      rw [hc, if_pos rfl, hl, ← htk, List.take_of_length_le hk]
    · rw [if_neg ht] at h
      cases h
theorem queRV_nil {L : List Nat} (h : (queRV L).2.1 ≠ 0) : (queRV L).1 = [] := by
  unfold queRV qEnd at h ⊢
  split
  · rfl
  · rename_i h0
    split
    · rename_i h1; rw [if_neg h0, if_pos h1] at h; exact absurd rfl h
    · rfl
theorem putL_pos (N : Nat) : 1 ≤ (putL N).length := by
  by_cases h : N < 128
  · rw [putL_lt h]; simp
  · rw [putL_ge h]; simp
theorem entB_min (x : (Int × Int × Int × Int × Int × Int × Int × Int)) : 8 ≤ (entB x).length := by
  rw [entB_eq, stl_nuB]
  simp only [List.length_append]
  have p := putL_pos
  have := p x.1.toNat; have := p x.2.1.toNat; have := p x.2.2.1.toNat; have := p (x.2.2.2.1 + 1).toNat; have := p x.2.2.2.2.1.toNat; have := p x.2.2.2.2.2.1.toNat; have := p x.2.2.2.2.2.2.1.toNat; have := p x.2.2.2.2.2.2.2.toNat
  omega
theorem flatQ_min (l : List (Int × Int × Int × Int × Int × Int × Int × Int)) : 8 * l.length ≤ (l.flatMap entB).length := by
  induction l with
  | nil => simp
  | cons x l ih =>
    have := entB_min x
    rw [List.flatMap_cons, List.length_append, List.length_cons]
    omega
theorem queRV_len {L : List Nat} (hB : Byt L) (hL : L.length ≤ 600) : (queRV L).1.length ≤ 100 := by
  by_cases h : (queRV L).2.1 = 0
  · obtain ⟨h1, h2, _⟩ := queRV_back hB h
    have h3 : queB (queRV L).1 = putL (queRV L).1.length ++ (queRV L).1.flatMap entB := by unfold queB; rw [h1]; exact if_pos rfl
    have h4 := flatQ_min (queRV L).1
    have h5 := congrArg List.length h2
    rw [h3, List.length_append] at h5
    omega
  · rw [queRV_nil h]
    decide
theorem nuB_byt {l : List Int} : Byt (nuB l) := by
  intro x hx
  obtain ⟨n, _, h⟩ := List.mem_flatMap.1 hx
  exact byt_putL _ _ (Nat.le_refl _) x h
theorem queB_byt (l : List (Int × Int × Int × Int × Int × Int × Int × Int)) : Byt (queB l) := by
  unfold queB
  split
  · intro x hx
    rcases List.mem_append.1 hx with h | h
    · exact byt_putL _ _ (Nat.le_refl _) x h
    · obtain ⟨y, _, h⟩ := List.mem_flatMap.1 h
      exact nuB_byt x h
  · intro x hx; cases hx
end
section
open Go.RowKit Go.ChangeShapes Go.WideShapes Go.Deep Go.Joins
theorem queB_small {l : List (Int × Int × Int × Int × Int × Int × Int × Int)} (hw : ∀ x ∈ l, FitsQ x) (hl : l.length ≤ 100) : (queB l).length ≤ 8010 := by
  unfold queB
  split
  · have h1 := que_fit hw hl l.length
    rwa [List.take_length] at h1
  · simp
set_option maxRecDepth 100000 in
set_option maxHeartbeats 4000000 in
theorem QueueBack_long (A A1 : Option Addr) (c n c1 n1 : Nat) (w : World) (hl : ¬ n ≤ 60 ∨ ¬ n1 ≤ 600) (hs : n ≤ 9223372036854775807) (hs1 : n1 ≤ 9223372036854775807) :
    Calls Try.prog 9 #[.slice A n c, .slice A1 n1 c1] w fun r w' => r = .returned (.bool true) ∧ Ext w w' := by
  go_enter Try.func9, Try.ntmps9
  go_wp2_with fail
  (with_reducible refine (QueueKnown_any _).mono ?_)
  rintro e w1 ⟨rfl, hx1⟩
  have z1 := hx1.size
  try simp at z1
  have X1 : Hid (Ext w w1) := Lib.hid (Ext.trans (by repeat (first | with_reducible exact Ext.refl w | with_reducible refine Ext.drew ?_ | with_reducible refine Ext.drewN ?_ _ | with_reducible refine Ext.alloc ?_ _ | with_reducible refine Ext.setCell ?_ (by first | omega | (simp; done) | (simp; omega)) _)) hx1)
  clear hx1 z1
  by_cases h0 : (60 : Int) < (n : Int)
  · skip
    go_wp2_with fail
    go_ret
    exact ⟨rfl, (by repeat (first | with_reducible exact X1.out | with_reducible refine Ext.drew ?_ | with_reducible refine Ext.drewN ?_ _ | with_reducible refine Ext.alloc ?_ _ | with_reducible refine Ext.setCell ?_ (by first | omega | (simp; done) | (simp; omega)) _))⟩
  · have h1 : (600 : Int) < (n1 : Int) := by omega
    go_wp2_with fail
    go_ret
    exact ⟨rfl, (by repeat (first | with_reducible exact X1.out | with_reducible refine Ext.drew ?_ | with_reducible refine Ext.drewN ?_ _ | with_reducible refine Ext.alloc ?_ _ | with_reducible refine Ext.setCell ?_ (by first | omega | (simp; done) | (simp; omega)) _))⟩
set_option maxRecDepth 100000 in
set_option maxHeartbeats 4000000 in
theorem QueueBack_zok (A A0 : Option Addr) (c c0 : Nat) (l R : List (Int × Int × Int × Int × Int × Int × Int × Int)) (M : List Nat) (q qa re ra : Int) (w : World) (hs : Sl w 8 A l.length c (l.flatMap entC)) (hw : ∀ x ∈ l, FitsQ x) (hb : Sl w 1 A0 M.length c0 (by_ M)) (hM : Byt M) (hnil0 : A0 = none → c0 = 0) (hl : l.length ≤ 60) (hl0 : M.length ≤ 600) (hq : (q, qa) = chkQ l) (h3 : (R, re, ra) = queRV M) (hq0 : q = 0) (he : re = 0) :
    Calls Try.prog 9 #[.slice A l.length c, .slice A0 M.length c0] w fun r w' => r = .returned (.bool true) ∧ Ext w w' := by
  have hMd : ¬ (60 : Int) < (l.length : Int) := by omega
  have hMe : ¬ (600 : Int) < (M.length : Int) := by omega
  have s1 := hs.small
  have s2 := hb.small
  have hre : re = (queRV M).2.1 := by rw [← h3]
  have hra : ra = (queRV M).2.2 := by rw [← h3]
  have hR1 : R = (queRV M).1 := by rw [← h3]
  have e32 : (q != q) = false := by simp
  have hsm := queB_small hw (by omega)
  have HBY := Lib.hid (queB_byt l)
  obtain ⟨BL, hBL⟩ : ∃ B, B = queB l := ⟨_, rfl⟩
  rw [← hBL] at hsm HBY
  have F1 := Lib.hid (show (BL, q) = (queB l, (chkQ l).1) from by rw [hBL, ← hq])
  have hbk := queRV_back hM (by rw [← hre]; exact he)
  have HB1 : Hid ((M, (0 : Int)) = (queB R, (chkQ R).1)) := Lib.hid (by rw [hR1, hbk.1, hbk.2.1])
  have HB3 : Hid (∀ x ∈ R, FitsQ x) := Lib.hid (by rw [hR1]; exact hbk.2.2.2)
  have HB4 : Hid (R.length ≤ 100) := Lib.hid (by rw [hR1]; exact queRV_len hM hl0)
  have hra0 : ra = 0 := hra.trans hbk.2.2.1
  subst he
  subst hra0
  subst hq0
  have HPT : Hid ((l, (0 : Int), (0 : Int)) = queRV BL) := Lib.hid (by rw [hBL]; exact (queRV_put (by rw [← hq]) hw).symm)
  have HS := Lib.hid hs
  have HW := Lib.hid hw
  have HB := Lib.hid hb
  have F3 := Lib.hid h3
  have HQ := Lib.hid hq
  have HM := Lib.hid hM
  have HN0 := Lib.hid hnil0
  have qn := flt_neq
  have qg := flt_eqg
  clear hs hw hb h3 hM hnil0 hre hR1 hq hBL hra hbk
  go_enter Try.func9, Try.ntmps9
  go_wp2_with fail
  (with_reducible refine (QueueKnown_any _).mono ?_)
  rintro e w1 ⟨rfl, hx1⟩
  have z1 := hx1.size
  try simp at z1
  replace HS := Lib.hid (HS.out.ext (Ext.trans (by repeat (first | with_reducible exact Ext.refl _ | with_reducible refine Ext.drew ?_ | with_reducible refine Ext.drewN ?_ _ | with_reducible refine Ext.alloc ?_ _ | with_reducible refine Ext.setCell ?_ (by first | omega | (simp; done) | (simp; omega)) _)) hx1))
  replace HB := Lib.hid (HB.out.ext (Ext.trans (by repeat (first | with_reducible exact Ext.refl _ | with_reducible refine Ext.drew ?_ | with_reducible refine Ext.drewN ?_ _ | with_reducible refine Ext.alloc ?_ _ | with_reducible refine Ext.setCell ?_ (by first | omega | (simp; done) | (simp; omega)) _)) hx1))
  have X1 : Hid (Ext w w1) := Lib.hid (Ext.trans (by repeat (first | with_reducible exact Ext.refl w | with_reducible refine Ext.drew ?_ | with_reducible refine Ext.drewN ?_ _ | with_reducible refine Ext.alloc ?_ _ | with_reducible refine Ext.setCell ?_ (by first | omega | (simp; done) | (simp; omega)) _)) hx1)
  clear hx1 z1
  go_wp2_with fail
  (with_reducible refine (qcheck_ev A l.length c l 0 qa _ (HS.out.ext (by repeat (first | with_reducible exact Ext.refl _ | with_reducible refine Ext.drew ?_ | with_reducible refine Ext.drewN ?_ _ | with_reducible refine Ext.alloc ?_ _ | with_reducible refine Ext.setCell ?_ (by first | omega | (simp; done) | (simp; omega)) _))) HW.out HQ.out).mono ?_)
  rintro e w2 ⟨rfl, hx2⟩
  have z2 := hx2.size
  try simp at z2
  replace HS := Lib.hid (HS.out.ext (Ext.trans (by repeat (first | with_reducible exact Ext.refl _ | with_reducible refine Ext.drew ?_ | with_reducible refine Ext.drewN ?_ _ | with_reducible refine Ext.alloc ?_ _ | with_reducible refine Ext.setCell ?_ (by first | omega | (simp; done) | (simp; omega)) _)) hx2))
  replace HB := Lib.hid (HB.out.ext (Ext.trans (by repeat (first | with_reducible exact Ext.refl _ | with_reducible refine Ext.drew ?_ | with_reducible refine Ext.drewN ?_ _ | with_reducible refine Ext.alloc ?_ _ | with_reducible refine Ext.setCell ?_ (by first | omega | (simp; done) | (simp; omega)) _)) hx2))
  have X2 : Hid (Ext w w2) := Lib.hid (Ext.trans (by repeat (first | with_reducible exact X1.out | with_reducible refine Ext.drew ?_ | with_reducible refine Ext.drewN ?_ _ | with_reducible refine Ext.alloc ?_ _ | with_reducible refine Ext.setCell ?_ (by first | omega | (simp; done) | (simp; omega)) _)) hx2)
  clear X1 hx2 z2
  go_wp2_with fail
  (with_reducible refine (qBytes_e A c l BL 0 _ (HS.out.ext (by repeat (first | with_reducible exact Ext.refl _ | with_reducible refine Ext.drew ?_ | with_reducible refine Ext.drewN ?_ _ | with_reducible refine Ext.alloc ?_ _ | with_reducible refine Ext.setCell ?_ (by first | omega | (simp; done) | (simp; omega)) _))) HW.out (by omega) F1.out).mono ?_)
  rintro e w3 ⟨A3, c3, rfl, hn3, hO3, hx3⟩
  have z3 := hx3.size
  try simp at z3
  replace HS := Lib.hid (HS.out.ext (Ext.trans (by repeat (first | with_reducible exact Ext.refl _ | with_reducible refine Ext.drew ?_ | with_reducible refine Ext.drewN ?_ _ | with_reducible refine Ext.alloc ?_ _ | with_reducible refine Ext.setCell ?_ (by first | omega | (simp; done) | (simp; omega)) _)) hx3))
  replace HB := Lib.hid (HB.out.ext (Ext.trans (by repeat (first | with_reducible exact Ext.refl _ | with_reducible refine Ext.drew ?_ | with_reducible refine Ext.drewN ?_ _ | with_reducible refine Ext.alloc ?_ _ | with_reducible refine Ext.setCell ?_ (by first | omega | (simp; done) | (simp; omega)) _)) hx3))
  have X3 : Hid (Ext w w3) := Lib.hid (Ext.trans (by repeat (first | with_reducible exact X2.out | with_reducible refine Ext.drew ?_ | with_reducible refine Ext.drewN ?_ _ | with_reducible refine Ext.alloc ?_ _ | with_reducible refine Ext.setCell ?_ (by first | omega | (simp; done) | (simp; omega)) _)) hx3)
  have HY := Lib.hid hO3
  clear X2 hx3 z3 hO3
  have HN3 := Lib.hid hn3
  clear hn3
  go_wp2_with fail
  (with_reducible refine (qRead_e A3 c3 BL l 0 0 HBY.out (by omega) HN3.out _ (HY.out.ext (by repeat (first | with_reducible exact Ext.refl _ | with_reducible refine Ext.drew ?_ | with_reducible refine Ext.drewN ?_ _ | with_reducible refine Ext.alloc ?_ _ | with_reducible refine Ext.setCell ?_ (by first | omega | (simp; done) | (simp; omega)) _))).sl HPT.out).mono ?_)
  rintro e w4 ⟨A4, c4, rfl, _, hO4, hx4⟩
  have z4 := hx4.size
  try simp at z4
  replace HS := Lib.hid (HS.out.ext (Ext.trans (by repeat (first | with_reducible exact Ext.refl _ | with_reducible refine Ext.drew ?_ | with_reducible refine Ext.drewN ?_ _ | with_reducible refine Ext.alloc ?_ _ | with_reducible refine Ext.setCell ?_ (by first | omega | (simp; done) | (simp; omega)) _)) hx4))
  replace HB := Lib.hid (HB.out.ext (Ext.trans (by repeat (first | with_reducible exact Ext.refl _ | with_reducible refine Ext.drew ?_ | with_reducible refine Ext.drewN ?_ _ | with_reducible refine Ext.alloc ?_ _ | with_reducible refine Ext.setCell ?_ (by first | omega | (simp; done) | (simp; omega)) _)) hx4))
  replace HY := Lib.hid (HY.out.ext (Ext.trans (by repeat (first | with_reducible exact Ext.refl _ | with_reducible refine Ext.drew ?_ | with_reducible refine Ext.drewN ?_ _ | with_reducible refine Ext.alloc ?_ _ | with_reducible refine Ext.setCell ?_ (by first | omega | (simp; done) | (simp; omega)) _)) hx4))
  have X4 : Hid (Ext w w4) := Lib.hid (Ext.trans (by repeat (first | with_reducible exact X3.out | with_reducible refine Ext.drew ?_ | with_reducible refine Ext.drewN ?_ _ | with_reducible refine Ext.alloc ?_ _ | with_reducible refine Ext.setCell ?_ (by first | omega | (simp; done) | (simp; omega)) _)) hx4)
  have HP := Lib.hid hO4
  clear X3 hx4 z4 hO4
  go_wp2_with fail
  (with_reducible refine (kSameEntries_eq A4 A _ c4 _ c l _ (OwnEnt.sl (HP.out.ext (by repeat (first | with_reducible exact Ext.refl _ | with_reducible refine Ext.drew ?_ | with_reducible refine Ext.drewN ?_ _ | with_reducible refine Ext.alloc ?_ _ | with_reducible refine Ext.setCell ?_ (by first | omega | (simp; done) | (simp; omega)) _)))) (HS.out.ext (by repeat (first | with_reducible exact Ext.refl _ | with_reducible refine Ext.drew ?_ | with_reducible refine Ext.drewN ?_ _ | with_reducible refine Ext.alloc ?_ _ | with_reducible refine Ext.setCell ?_ (by first | omega | (simp; done) | (simp; omega)) _)))).mono ?_)
  rintro e w5 ⟨rfl, hx5⟩
  have z5 := hx5.size
  try simp at z5
  replace HS := Lib.hid (HS.out.ext (Ext.trans (by repeat (first | with_reducible exact Ext.refl _ | with_reducible refine Ext.drew ?_ | with_reducible refine Ext.drewN ?_ _ | with_reducible refine Ext.alloc ?_ _ | with_reducible refine Ext.setCell ?_ (by first | omega | (simp; done) | (simp; omega)) _)) hx5))
  replace HB := Lib.hid (HB.out.ext (Ext.trans (by repeat (first | with_reducible exact Ext.refl _ | with_reducible refine Ext.drew ?_ | with_reducible refine Ext.drewN ?_ _ | with_reducible refine Ext.alloc ?_ _ | with_reducible refine Ext.setCell ?_ (by first | omega | (simp; done) | (simp; omega)) _)) hx5))
  replace HY := Lib.hid (HY.out.ext (Ext.trans (by repeat (first | with_reducible exact Ext.refl _ | with_reducible refine Ext.drew ?_ | with_reducible refine Ext.drewN ?_ _ | with_reducible refine Ext.alloc ?_ _ | with_reducible refine Ext.setCell ?_ (by first | omega | (simp; done) | (simp; omega)) _)) hx5))
  replace HP := Lib.hid (HP.out.ext (Ext.trans (by repeat (first | with_reducible exact Ext.refl _ | with_reducible refine Ext.drew ?_ | with_reducible refine Ext.drewN ?_ _ | with_reducible refine Ext.alloc ?_ _ | with_reducible refine Ext.setCell ?_ (by first | omega | (simp; done) | (simp; omega)) _)) hx5))
  have X5 : Hid (Ext w w5) := Lib.hid (Ext.trans (by repeat (first | with_reducible exact X4.out | with_reducible refine Ext.drew ?_ | with_reducible refine Ext.drewN ?_ _ | with_reducible refine Ext.alloc ?_ _ | with_reducible refine Ext.setCell ?_ (by first | omega | (simp; done) | (simp; omega)) _)) hx5)
  clear X4 hx5 z5
  go_wp2_with fail
  (with_reducible refine (qRead_e A0 c0 M R 0 0 HM.out (by omega) HN0.out _ (HB.out.ext (by repeat (first | with_reducible exact Ext.refl _ | with_reducible refine Ext.drew ?_ | with_reducible refine Ext.drewN ?_ _ | with_reducible refine Ext.alloc ?_ _ | with_reducible refine Ext.setCell ?_ (by first | omega | (simp; done) | (simp; omega)) _))) F3.out).mono ?_)
  rintro e w6 ⟨A5, c5, rfl, _, hO5, hx6⟩
  have z6 := hx6.size
  try simp at z6
  replace HS := Lib.hid (HS.out.ext (Ext.trans (by repeat (first | with_reducible exact Ext.refl _ | with_reducible refine Ext.drew ?_ | with_reducible refine Ext.drewN ?_ _ | with_reducible refine Ext.alloc ?_ _ | with_reducible refine Ext.setCell ?_ (by first | omega | (simp; done) | (simp; omega)) _)) hx6))
  replace HB := Lib.hid (HB.out.ext (Ext.trans (by repeat (first | with_reducible exact Ext.refl _ | with_reducible refine Ext.drew ?_ | with_reducible refine Ext.drewN ?_ _ | with_reducible refine Ext.alloc ?_ _ | with_reducible refine Ext.setCell ?_ (by first | omega | (simp; done) | (simp; omega)) _)) hx6))
  replace HY := Lib.hid (HY.out.ext (Ext.trans (by repeat (first | with_reducible exact Ext.refl _ | with_reducible refine Ext.drew ?_ | with_reducible refine Ext.drewN ?_ _ | with_reducible refine Ext.alloc ?_ _ | with_reducible refine Ext.setCell ?_ (by first | omega | (simp; done) | (simp; omega)) _)) hx6))
  replace HP := Lib.hid (HP.out.ext (Ext.trans (by repeat (first | with_reducible exact Ext.refl _ | with_reducible refine Ext.drew ?_ | with_reducible refine Ext.drewN ?_ _ | with_reducible refine Ext.alloc ?_ _ | with_reducible refine Ext.setCell ?_ (by first | omega | (simp; done) | (simp; omega)) _)) hx6))
  have X6 : Hid (Ext w w6) := Lib.hid (Ext.trans (by repeat (first | with_reducible exact X5.out | with_reducible refine Ext.drew ?_ | with_reducible refine Ext.drewN ?_ _ | with_reducible refine Ext.alloc ?_ _ | with_reducible refine Ext.setCell ?_ (by first | omega | (simp; done) | (simp; omega)) _)) hx6)
  have HQ5 := Lib.hid hO5
  clear X5 hx6 z6 hO5
  go_wp2_with fail
  (with_reducible refine (qBytes_e A5 c5 R M 0 _ (OwnEnt.sl (HQ5.out.ext (by repeat (first | with_reducible exact Ext.refl _ | with_reducible refine Ext.drew ?_ | with_reducible refine Ext.drewN ?_ _ | with_reducible refine Ext.alloc ?_ _ | with_reducible refine Ext.setCell ?_ (by first | omega | (simp; done) | (simp; omega)) _)))) HB3.out HB4.out HB1.out).mono ?_)
  rintro e w7 ⟨A6, c6, rfl, _, hO6, hx7⟩
  have z7 := hx7.size
  try simp at z7
  replace HS := Lib.hid (HS.out.ext (Ext.trans (by repeat (first | with_reducible exact Ext.refl _ | with_reducible refine Ext.drew ?_ | with_reducible refine Ext.drewN ?_ _ | with_reducible refine Ext.alloc ?_ _ | with_reducible refine Ext.setCell ?_ (by first | omega | (simp; done) | (simp; omega)) _)) hx7))
  replace HB := Lib.hid (HB.out.ext (Ext.trans (by repeat (first | with_reducible exact Ext.refl _ | with_reducible refine Ext.drew ?_ | with_reducible refine Ext.drewN ?_ _ | with_reducible refine Ext.alloc ?_ _ | with_reducible refine Ext.setCell ?_ (by first | omega | (simp; done) | (simp; omega)) _)) hx7))
  replace HY := Lib.hid (HY.out.ext (Ext.trans (by repeat (first | with_reducible exact Ext.refl _ | with_reducible refine Ext.drew ?_ | with_reducible refine Ext.drewN ?_ _ | with_reducible refine Ext.alloc ?_ _ | with_reducible refine Ext.setCell ?_ (by first | omega | (simp; done) | (simp; omega)) _)) hx7))
  replace HP := Lib.hid (HP.out.ext (Ext.trans (by repeat (first | with_reducible exact Ext.refl _ | with_reducible refine Ext.drew ?_ | with_reducible refine Ext.drewN ?_ _ | with_reducible refine Ext.alloc ?_ _ | with_reducible refine Ext.setCell ?_ (by first | omega | (simp; done) | (simp; omega)) _)) hx7))
  replace HQ5 := Lib.hid (HQ5.out.ext (Ext.trans (by repeat (first | with_reducible exact Ext.refl _ | with_reducible refine Ext.drew ?_ | with_reducible refine Ext.drewN ?_ _ | with_reducible refine Ext.alloc ?_ _ | with_reducible refine Ext.setCell ?_ (by first | omega | (simp; done) | (simp; omega)) _)) hx7))
  have X7 : Hid (Ext w w7) := Lib.hid (Ext.trans (by repeat (first | with_reducible exact X6.out | with_reducible refine Ext.drew ?_ | with_reducible refine Ext.drewN ?_ _ | with_reducible refine Ext.alloc ?_ _ | with_reducible refine Ext.setCell ?_ (by first | omega | (simp; done) | (simp; omega)) _)) hx7)
  have HZ := Lib.hid hO6
  clear X6 hx7 z7 hO6
  go_wp2_with fail
  (with_reducible refine (kSameBytes_eq A6 A0 _ c6 _ c0 M HM.out _ (HZ.out.ext (by repeat (first | with_reducible exact Ext.refl _ | with_reducible refine Ext.drew ?_ | with_reducible refine Ext.drewN ?_ _ | with_reducible refine Ext.alloc ?_ _ | with_reducible refine Ext.setCell ?_ (by first | omega | (simp; done) | (simp; omega)) _))).sl (HB.out.ext (by repeat (first | with_reducible exact Ext.refl _ | with_reducible refine Ext.drew ?_ | with_reducible refine Ext.drewN ?_ _ | with_reducible refine Ext.alloc ?_ _ | with_reducible refine Ext.setCell ?_ (by first | omega | (simp; done) | (simp; omega)) _)))).mono ?_)
  rintro e w_1 ⟨rfl, rfl⟩
  go_wp2_with fail
  go_ret
  exact ⟨rfl, (by repeat (first | with_reducible exact X7.out | with_reducible refine Ext.drew ?_ | with_reducible refine Ext.drewN ?_ _ | with_reducible refine Ext.alloc ?_ _ | with_reducible refine Ext.setCell ?_ (by first | omega | (simp; done) | (simp; omega)) _))⟩
set_option maxRecDepth 100000 in
set_option maxHeartbeats 4000000 in
theorem QueueBack_zbad (A A0 : Option Addr) (c c0 : Nat) (l R : List (Int × Int × Int × Int × Int × Int × Int × Int)) (M : List Nat) (q qa re ra : Int) (w : World) (hs : Sl w 8 A l.length c (l.flatMap entC)) (hw : ∀ x ∈ l, FitsQ x) (hb : Sl w 1 A0 M.length c0 (by_ M)) (hM : Byt M) (hnil0 : A0 = none → c0 = 0) (hl : l.length ≤ 60) (hl0 : M.length ≤ 600) (hq : (q, qa) = chkQ l) (h3 : (R, re, ra) = queRV M) (hq0 : q = 0) (he : ¬ re = 0) :
    Calls Try.prog 9 #[.slice A l.length c, .slice A0 M.length c0] w fun r w' => r = .returned (.bool true) ∧ Ext w w' := by
  have hMd : ¬ (60 : Int) < (l.length : Int) := by omega
  have hMe : ¬ (600 : Int) < (M.length : Int) := by omega
  have s1 := hs.small
  have s2 := hb.small
  have hre : re = (queRV M).2.1 := by rw [← h3]
  have hra : ra = (queRV M).2.2 := by rw [← h3]
  have hR1 : R = (queRV M).1 := by rw [← h3]
  have e32 : (q != q) = false := by simp
  have hsm := queB_small hw (by omega)
  have HBY := Lib.hid (queB_byt l)
  obtain ⟨BL, hBL⟩ : ∃ B, B = queB l := ⟨_, rfl⟩
  rw [← hBL] at hsm HBY
  have F1 := Lib.hid (show (BL, q) = (queB l, (chkQ l).1) from by rw [hBL, ← hq])
  have hnl : R = [] := by rw [hR1]; exact queRV_nil (by rw [← hre]; exact he)
  subst hnl
  have e56 : (re == 0) = false := by simpa using he
  subst hq0
  have HPT : Hid ((l, (0 : Int), (0 : Int)) = queRV BL) := Lib.hid (by rw [hBL]; exact (queRV_put (by rw [← hq]) hw).symm)
  have HS := Lib.hid hs
  have HW := Lib.hid hw
  have HB := Lib.hid hb
  have F3 := Lib.hid h3
  have HQ := Lib.hid hq
  have HM := Lib.hid hM
  have HN0 := Lib.hid hnil0
  have qn := flt_neq
  have qg := flt_eqg
  clear hs hw hb h3 hM hnil0 hre hR1 hq hBL hra he
  go_enter Try.func9, Try.ntmps9
  go_wp2_with fail
  (with_reducible refine (QueueKnown_any _).mono ?_)
  rintro e w1 ⟨rfl, hx1⟩
  have z1 := hx1.size
  try simp at z1
  replace HS := Lib.hid (HS.out.ext (Ext.trans (by repeat (first | with_reducible exact Ext.refl _ | with_reducible refine Ext.drew ?_ | with_reducible refine Ext.drewN ?_ _ | with_reducible refine Ext.alloc ?_ _ | with_reducible refine Ext.setCell ?_ (by first | omega | (simp; done) | (simp; omega)) _)) hx1))
  replace HB := Lib.hid (HB.out.ext (Ext.trans (by repeat (first | with_reducible exact Ext.refl _ | with_reducible refine Ext.drew ?_ | with_reducible refine Ext.drewN ?_ _ | with_reducible refine Ext.alloc ?_ _ | with_reducible refine Ext.setCell ?_ (by first | omega | (simp; done) | (simp; omega)) _)) hx1))
  have X1 : Hid (Ext w w1) := Lib.hid (Ext.trans (by repeat (first | with_reducible exact Ext.refl w | with_reducible refine Ext.drew ?_ | with_reducible refine Ext.drewN ?_ _ | with_reducible refine Ext.alloc ?_ _ | with_reducible refine Ext.setCell ?_ (by first | omega | (simp; done) | (simp; omega)) _)) hx1)
  clear hx1 z1
  go_wp2_with fail
  (with_reducible refine (qcheck_ev A l.length c l 0 qa _ (HS.out.ext (by repeat (first | with_reducible exact Ext.refl _ | with_reducible refine Ext.drew ?_ | with_reducible refine Ext.drewN ?_ _ | with_reducible refine Ext.alloc ?_ _ | with_reducible refine Ext.setCell ?_ (by first | omega | (simp; done) | (simp; omega)) _))) HW.out HQ.out).mono ?_)
  rintro e w2 ⟨rfl, hx2⟩
  have z2 := hx2.size
  try simp at z2
  replace HS := Lib.hid (HS.out.ext (Ext.trans (by repeat (first | with_reducible exact Ext.refl _ | with_reducible refine Ext.drew ?_ | with_reducible refine Ext.drewN ?_ _ | with_reducible refine Ext.alloc ?_ _ | with_reducible refine Ext.setCell ?_ (by first | omega | (simp; done) | (simp; omega)) _)) hx2))
  replace HB := Lib.hid (HB.out.ext (Ext.trans (by repeat (first | with_reducible exact Ext.refl _ | with_reducible refine Ext.drew ?_ | with_reducible refine Ext.drewN ?_ _ | with_reducible refine Ext.alloc ?_ _ | with_reducible refine Ext.setCell ?_ (by first | omega | (simp; done) | (simp; omega)) _)) hx2))
  have X2 : Hid (Ext w w2) := Lib.hid (Ext.trans (by repeat (first | with_reducible exact X1.out | with_reducible refine Ext.drew ?_ | with_reducible refine Ext.drewN ?_ _ | with_reducible refine Ext.alloc ?_ _ | with_reducible refine Ext.setCell ?_ (by first | omega | (simp; done) | (simp; omega)) _)) hx2)
  clear X1 hx2 z2
  go_wp2_with fail
  (with_reducible refine (qBytes_e A c l BL 0 _ (HS.out.ext (by repeat (first | with_reducible exact Ext.refl _ | with_reducible refine Ext.drew ?_ | with_reducible refine Ext.drewN ?_ _ | with_reducible refine Ext.alloc ?_ _ | with_reducible refine Ext.setCell ?_ (by first | omega | (simp; done) | (simp; omega)) _))) HW.out (by omega) F1.out).mono ?_)
  rintro e w3 ⟨A3, c3, rfl, hn3, hO3, hx3⟩
  have z3 := hx3.size
  try simp at z3
  replace HS := Lib.hid (HS.out.ext (Ext.trans (by repeat (first | with_reducible exact Ext.refl _ | with_reducible refine Ext.drew ?_ | with_reducible refine Ext.drewN ?_ _ | with_reducible refine Ext.alloc ?_ _ | with_reducible refine Ext.setCell ?_ (by first | omega | (simp; done) | (simp; omega)) _)) hx3))
  replace HB := Lib.hid (HB.out.ext (Ext.trans (by repeat (first | with_reducible exact Ext.refl _ | with_reducible refine Ext.drew ?_ | with_reducible refine Ext.drewN ?_ _ | with_reducible refine Ext.alloc ?_ _ | with_reducible refine Ext.setCell ?_ (by first | omega | (simp; done) | (simp; omega)) _)) hx3))
  have X3 : Hid (Ext w w3) := Lib.hid (Ext.trans (by repeat (first | with_reducible exact X2.out | with_reducible refine Ext.drew ?_ | with_reducible refine Ext.drewN ?_ _ | with_reducible refine Ext.alloc ?_ _ | with_reducible refine Ext.setCell ?_ (by first | omega | (simp; done) | (simp; omega)) _)) hx3)
  have HY := Lib.hid hO3
  clear X2 hx3 z3 hO3
  have HN3 := Lib.hid hn3
  clear hn3
  go_wp2_with fail
  (with_reducible refine (qRead_e A3 c3 BL l 0 0 HBY.out (by omega) HN3.out _ (HY.out.ext (by repeat (first | with_reducible exact Ext.refl _ | with_reducible refine Ext.drew ?_ | with_reducible refine Ext.drewN ?_ _ | with_reducible refine Ext.alloc ?_ _ | with_reducible refine Ext.setCell ?_ (by first | omega | (simp; done) | (simp; omega)) _))).sl HPT.out).mono ?_)
  rintro e w4 ⟨A4, c4, rfl, _, hO4, hx4⟩
  have z4 := hx4.size
  try simp at z4
  replace HS := Lib.hid (HS.out.ext (Ext.trans (by repeat (first | with_reducible exact Ext.refl _ | with_reducible refine Ext.drew ?_ | with_reducible refine Ext.drewN ?_ _ | with_reducible refine Ext.alloc ?_ _ | with_reducible refine Ext.setCell ?_ (by first | omega | (simp; done) | (simp; omega)) _)) hx4))
  replace HB := Lib.hid (HB.out.ext (Ext.trans (by repeat (first | with_reducible exact Ext.refl _ | with_reducible refine Ext.drew ?_ | with_reducible refine Ext.drewN ?_ _ | with_reducible refine Ext.alloc ?_ _ | with_reducible refine Ext.setCell ?_ (by first | omega | (simp; done) | (simp; omega)) _)) hx4))
  replace HY := Lib.hid (HY.out.ext (Ext.trans (by repeat (first | with_reducible exact Ext.refl _ | with_reducible refine Ext.drew ?_ | with_reducible refine Ext.drewN ?_ _ | with_reducible refine Ext.alloc ?_ _ | with_reducible refine Ext.setCell ?_ (by first | omega | (simp; done) | (simp; omega)) _)) hx4))
  have X4 : Hid (Ext w w4) := Lib.hid (Ext.trans (by repeat (first | with_reducible exact X3.out | with_reducible refine Ext.drew ?_ | with_reducible refine Ext.drewN ?_ _ | with_reducible refine Ext.alloc ?_ _ | with_reducible refine Ext.setCell ?_ (by first | omega | (simp; done) | (simp; omega)) _)) hx4)
  have HP := Lib.hid hO4
  clear X3 hx4 z4 hO4
  go_wp2_with fail
  (with_reducible refine (kSameEntries_eq A4 A _ c4 _ c l _ (OwnEnt.sl (HP.out.ext (by repeat (first | with_reducible exact Ext.refl _ | with_reducible refine Ext.drew ?_ | with_reducible refine Ext.drewN ?_ _ | with_reducible refine Ext.alloc ?_ _ | with_reducible refine Ext.setCell ?_ (by first | omega | (simp; done) | (simp; omega)) _)))) (HS.out.ext (by repeat (first | with_reducible exact Ext.refl _ | with_reducible refine Ext.drew ?_ | with_reducible refine Ext.drewN ?_ _ | with_reducible refine Ext.alloc ?_ _ | with_reducible refine Ext.setCell ?_ (by first | omega | (simp; done) | (simp; omega)) _)))).mono ?_)
  rintro e w5 ⟨rfl, hx5⟩
  have z5 := hx5.size
  try simp at z5
  replace HS := Lib.hid (HS.out.ext (Ext.trans (by repeat (first | with_reducible exact Ext.refl _ | with_reducible refine Ext.drew ?_ | with_reducible refine Ext.drewN ?_ _ | with_reducible refine Ext.alloc ?_ _ | with_reducible refine Ext.setCell ?_ (by first | omega | (simp; done) | (simp; omega)) _)) hx5))
  replace HB := Lib.hid (HB.out.ext (Ext.trans (by repeat (first | with_reducible exact Ext.refl _ | with_reducible refine Ext.drew ?_ | with_reducible refine Ext.drewN ?_ _ | with_reducible refine Ext.alloc ?_ _ | with_reducible refine Ext.setCell ?_ (by first | omega | (simp; done) | (simp; omega)) _)) hx5))
  replace HY := Lib.hid (HY.out.ext (Ext.trans (by repeat (first | with_reducible exact Ext.refl _ | with_reducible refine Ext.drew ?_ | with_reducible refine Ext.drewN ?_ _ | with_reducible refine Ext.alloc ?_ _ | with_reducible refine Ext.setCell ?_ (by first | omega | (simp; done) | (simp; omega)) _)) hx5))
  replace HP := Lib.hid (HP.out.ext (Ext.trans (by repeat (first | with_reducible exact Ext.refl _ | with_reducible refine Ext.drew ?_ | with_reducible refine Ext.drewN ?_ _ | with_reducible refine Ext.alloc ?_ _ | with_reducible refine Ext.setCell ?_ (by first | omega | (simp; done) | (simp; omega)) _)) hx5))
  have X5 : Hid (Ext w w5) := Lib.hid (Ext.trans (by repeat (first | with_reducible exact X4.out | with_reducible refine Ext.drew ?_ | with_reducible refine Ext.drewN ?_ _ | with_reducible refine Ext.alloc ?_ _ | with_reducible refine Ext.setCell ?_ (by first | omega | (simp; done) | (simp; omega)) _)) hx5)
  clear X4 hx5 z5
  go_wp2_with fail
  (with_reducible refine (qRead_e A0 c0 M [] re ra HM.out (by omega) HN0.out _ (HB.out.ext (by repeat (first | with_reducible exact Ext.refl _ | with_reducible refine Ext.drew ?_ | with_reducible refine Ext.drewN ?_ _ | with_reducible refine Ext.alloc ?_ _ | with_reducible refine Ext.setCell ?_ (by first | omega | (simp; done) | (simp; omega)) _))) F3.out).mono ?_)
  rintro e w6 ⟨A5, c5, rfl, _, hO5, hx6⟩
  have z6 := hx6.size
  try simp at z6
  replace HS := Lib.hid (HS.out.ext (Ext.trans (by repeat (first | with_reducible exact Ext.refl _ | with_reducible refine Ext.drew ?_ | with_reducible refine Ext.drewN ?_ _ | with_reducible refine Ext.alloc ?_ _ | with_reducible refine Ext.setCell ?_ (by first | omega | (simp; done) | (simp; omega)) _)) hx6))
  replace HB := Lib.hid (HB.out.ext (Ext.trans (by repeat (first | with_reducible exact Ext.refl _ | with_reducible refine Ext.drew ?_ | with_reducible refine Ext.drewN ?_ _ | with_reducible refine Ext.alloc ?_ _ | with_reducible refine Ext.setCell ?_ (by first | omega | (simp; done) | (simp; omega)) _)) hx6))
  replace HY := Lib.hid (HY.out.ext (Ext.trans (by repeat (first | with_reducible exact Ext.refl _ | with_reducible refine Ext.drew ?_ | with_reducible refine Ext.drewN ?_ _ | with_reducible refine Ext.alloc ?_ _ | with_reducible refine Ext.setCell ?_ (by first | omega | (simp; done) | (simp; omega)) _)) hx6))
  replace HP := Lib.hid (HP.out.ext (Ext.trans (by repeat (first | with_reducible exact Ext.refl _ | with_reducible refine Ext.drew ?_ | with_reducible refine Ext.drewN ?_ _ | with_reducible refine Ext.alloc ?_ _ | with_reducible refine Ext.setCell ?_ (by first | omega | (simp; done) | (simp; omega)) _)) hx6))
  have X6 : Hid (Ext w w6) := Lib.hid (Ext.trans (by repeat (first | with_reducible exact X5.out | with_reducible refine Ext.drew ?_ | with_reducible refine Ext.drewN ?_ _ | with_reducible refine Ext.alloc ?_ _ | with_reducible refine Ext.setCell ?_ (by first | omega | (simp; done) | (simp; omega)) _)) hx6)
  have HQ5 := Lib.hid hO5
  clear X5 hx6 z6 hO5
  go_wp2_with fail
  go_ret
  exact ⟨rfl, (by repeat (first | with_reducible exact X6.out | with_reducible refine Ext.drew ?_ | with_reducible refine Ext.drewN ?_ _ | with_reducible refine Ext.alloc ?_ _ | with_reducible refine Ext.setCell ?_ (by first | omega | (simp; done) | (simp; omega)) _))⟩
set_option maxRecDepth 100000 in
set_option maxHeartbeats 4000000 in
theorem QueueBack_nok (A A0 : Option Addr) (c c0 : Nat) (l R : List (Int × Int × Int × Int × Int × Int × Int × Int)) (M : List Nat) (q qa re ra : Int) (w : World) (hs : Sl w 8 A l.length c (l.flatMap entC)) (hw : ∀ x ∈ l, FitsQ x) (hb : Sl w 1 A0 M.length c0 (by_ M)) (hM : Byt M) (hnil0 : A0 = none → c0 = 0) (hl : l.length ≤ 60) (hl0 : M.length ≤ 600) (hq : (q, qa) = chkQ l) (h3 : (R, re, ra) = queRV M) (hq0 : ¬ q = 0) (he : re = 0) :
    Calls Try.prog 9 #[.slice A l.length c, .slice A0 M.length c0] w fun r w' => r = .returned (.bool true) ∧ Ext w w' := by
  have hMd : ¬ (60 : Int) < (l.length : Int) := by omega
  have hMe : ¬ (600 : Int) < (M.length : Int) := by omega
  have s1 := hs.small
  have s2 := hb.small
  have hre : re = (queRV M).2.1 := by rw [← h3]
  have hra : ra = (queRV M).2.2 := by rw [← h3]
  have hR1 : R = (queRV M).1 := by rw [← h3]
  have e32 : (q != q) = false := by simp
  have hsm := queB_small hw (by omega)
  have HBY := Lib.hid (queB_byt l)
  obtain ⟨BL, hBL⟩ : ∃ B, B = queB l := ⟨_, rfl⟩
  rw [← hBL] at hsm HBY
  have F1 := Lib.hid (show (BL, q) = (queB l, (chkQ l).1) from by rw [hBL, ← hq])
  have hbk := queRV_back hM (by rw [← hre]; exact he)
  have HB1 : Hid ((M, (0 : Int)) = (queB R, (chkQ R).1)) := Lib.hid (by rw [hR1, hbk.1, hbk.2.1])
  have HB3 : Hid (∀ x ∈ R, FitsQ x) := Lib.hid (by rw [hR1]; exact hbk.2.2.2)
  have HB4 : Hid (R.length ≤ 100) := Lib.hid (by rw [hR1]; exact queRV_len hM hl0)
  have hra0 : ra = 0 := hra.trans hbk.2.2.1
  subst he
  subst hra0
  have e34 : (q == 0) = false := by simpa using hq0
  have HS := Lib.hid hs
  have HW := Lib.hid hw
  have HB := Lib.hid hb
  have F3 := Lib.hid h3
  have HQ := Lib.hid hq
  have HM := Lib.hid hM
  have HN0 := Lib.hid hnil0
  have qn := flt_neq
  have qg := flt_eqg
  clear hs hw hb h3 hM hnil0 hre hR1 hq hBL hra hbk hq0
  go_enter Try.func9, Try.ntmps9
  go_wp2_with fail
  (with_reducible refine (QueueKnown_any _).mono ?_)
  rintro e w1 ⟨rfl, hx1⟩
  have z1 := hx1.size
  try simp at z1
  replace HS := Lib.hid (HS.out.ext (Ext.trans (by repeat (first | with_reducible exact Ext.refl _ | with_reducible refine Ext.drew ?_ | with_reducible refine Ext.drewN ?_ _ | with_reducible refine Ext.alloc ?_ _ | with_reducible refine Ext.setCell ?_ (by first | omega | (simp; done) | (simp; omega)) _)) hx1))
  replace HB := Lib.hid (HB.out.ext (Ext.trans (by repeat (first | with_reducible exact Ext.refl _ | with_reducible refine Ext.drew ?_ | with_reducible refine Ext.drewN ?_ _ | with_reducible refine Ext.alloc ?_ _ | with_reducible refine Ext.setCell ?_ (by first | omega | (simp; done) | (simp; omega)) _)) hx1))
  have X1 : Hid (Ext w w1) := Lib.hid (Ext.trans (by repeat (first | with_reducible exact Ext.refl w | with_reducible refine Ext.drew ?_ | with_reducible refine Ext.drewN ?_ _ | with_reducible refine Ext.alloc ?_ _ | with_reducible refine Ext.setCell ?_ (by first | omega | (simp; done) | (simp; omega)) _)) hx1)
  clear hx1 z1
  go_wp2_with fail
  (with_reducible refine (qcheck_ev A l.length c l q qa _ (HS.out.ext (by repeat (first | with_reducible exact Ext.refl _ | with_reducible refine Ext.drew ?_ | with_reducible refine Ext.drewN ?_ _ | with_reducible refine Ext.alloc ?_ _ | with_reducible refine Ext.setCell ?_ (by first | omega | (simp; done) | (simp; omega)) _))) HW.out HQ.out).mono ?_)
  rintro e w2 ⟨rfl, hx2⟩
  have z2 := hx2.size
  try simp at z2
  replace HS := Lib.hid (HS.out.ext (Ext.trans (by repeat (first | with_reducible exact Ext.refl _ | with_reducible refine Ext.drew ?_ | with_reducible refine Ext.drewN ?_ _ | with_reducible refine Ext.alloc ?_ _ | with_reducible refine Ext.setCell ?_ (by first | omega | (simp; done) | (simp; omega)) _)) hx2))
  replace HB := Lib.hid (HB.out.ext (Ext.trans (by repeat (first | with_reducible exact Ext.refl _ | with_reducible refine Ext.drew ?_ | with_reducible refine Ext.drewN ?_ _ | with_reducible refine Ext.alloc ?_ _ | with_reducible refine Ext.setCell ?_ (by first | omega | (simp; done) | (simp; omega)) _)) hx2))
  have X2 : Hid (Ext w w2) := Lib.hid (Ext.trans (by repeat (first | with_reducible exact X1.out | with_reducible refine Ext.drew ?_ | with_reducible refine Ext.drewN ?_ _ | with_reducible refine Ext.alloc ?_ _ | with_reducible refine Ext.setCell ?_ (by first | omega | (simp; done) | (simp; omega)) _)) hx2)
  clear X1 hx2 z2
  go_wp2_with fail
  (with_reducible refine (qBytes_e A c l BL q _ (HS.out.ext (by repeat (first | with_reducible exact Ext.refl _ | with_reducible refine Ext.drew ?_ | with_reducible refine Ext.drewN ?_ _ | with_reducible refine Ext.alloc ?_ _ | with_reducible refine Ext.setCell ?_ (by first | omega | (simp; done) | (simp; omega)) _))) HW.out (by omega) F1.out).mono ?_)
  rintro e w3 ⟨A3, c3, rfl, hn3, hO3, hx3⟩
  have z3 := hx3.size
  try simp at z3
  replace HS := Lib.hid (HS.out.ext (Ext.trans (by repeat (first | with_reducible exact Ext.refl _ | with_reducible refine Ext.drew ?_ | with_reducible refine Ext.drewN ?_ _ | with_reducible refine Ext.alloc ?_ _ | with_reducible refine Ext.setCell ?_ (by first | omega | (simp; done) | (simp; omega)) _)) hx3))
  replace HB := Lib.hid (HB.out.ext (Ext.trans (by repeat (first | with_reducible exact Ext.refl _ | with_reducible refine Ext.drew ?_ | with_reducible refine Ext.drewN ?_ _ | with_reducible refine Ext.alloc ?_ _ | with_reducible refine Ext.setCell ?_ (by first | omega | (simp; done) | (simp; omega)) _)) hx3))
  have X3 : Hid (Ext w w3) := Lib.hid (Ext.trans (by repeat (first | with_reducible exact X2.out | with_reducible refine Ext.drew ?_ | with_reducible refine Ext.drewN ?_ _ | with_reducible refine Ext.alloc ?_ _ | with_reducible refine Ext.setCell ?_ (by first | omega | (simp; done) | (simp; omega)) _)) hx3)
  have HY := Lib.hid hO3
  clear X2 hx3 z3 hO3
  have HN3 := Lib.hid hn3
  clear hn3
  go_wp2_with fail
  (with_reducible refine (qRead_e A0 c0 M R 0 0 HM.out (by omega) HN0.out _ (HB.out.ext (by repeat (first | with_reducible exact Ext.refl _ | with_reducible refine Ext.drew ?_ | with_reducible refine Ext.drewN ?_ _ | with_reducible refine Ext.alloc ?_ _ | with_reducible refine Ext.setCell ?_ (by first | omega | (simp; done) | (simp; omega)) _))) F3.out).mono ?_)
  rintro e w4 ⟨A5, c5, rfl, _, hO5, hx4⟩
  have z4 := hx4.size
  try simp at z4
  replace HS := Lib.hid (HS.out.ext (Ext.trans (by repeat (first | with_reducible exact Ext.refl _ | with_reducible refine Ext.drew ?_ | with_reducible refine Ext.drewN ?_ _ | with_reducible refine Ext.alloc ?_ _ | with_reducible refine Ext.setCell ?_ (by first | omega | (simp; done) | (simp; omega)) _)) hx4))
  replace HB := Lib.hid (HB.out.ext (Ext.trans (by repeat (first | with_reducible exact Ext.refl _ | with_reducible refine Ext.drew ?_ | with_reducible refine Ext.drewN ?_ _ | with_reducible refine Ext.alloc ?_ _ | with_reducible refine Ext.setCell ?_ (by first | omega | (simp; done) | (simp; omega)) _)) hx4))
  replace HY := Lib.hid (HY.out.ext (Ext.trans (by repeat (first | with_reducible exact Ext.refl _ | with_reducible refine Ext.drew ?_ | with_reducible refine Ext.drewN ?_ _ | with_reducible refine Ext.alloc ?_ _ | with_reducible refine Ext.setCell ?_ (by first | omega | (simp; done) | (simp; omega)) _)) hx4))
  have X4 : Hid (Ext w w4) := Lib.hid (Ext.trans (by repeat (first | with_reducible exact X3.out | with_reducible refine Ext.drew ?_ | with_reducible refine Ext.drewN ?_ _ | with_reducible refine Ext.alloc ?_ _ | with_reducible refine Ext.setCell ?_ (by first | omega | (simp; done) | (simp; omega)) _)) hx4)
  have HQ5 := Lib.hid hO5
  clear X3 hx4 z4 hO5
  go_wp2_with fail
  (with_reducible refine (qBytes_e A5 c5 R M 0 _ (OwnEnt.sl (HQ5.out.ext (by repeat (first | with_reducible exact Ext.refl _ | with_reducible refine Ext.drew ?_ | with_reducible refine Ext.drewN ?_ _ | with_reducible refine Ext.alloc ?_ _ | with_reducible refine Ext.setCell ?_ (by first | omega | (simp; done) | (simp; omega)) _)))) HB3.out HB4.out HB1.out).mono ?_)
  rintro e w5 ⟨A6, c6, rfl, _, hO6, hx5⟩
  have z5 := hx5.size
  try simp at z5
  replace HS := Lib.hid (HS.out.ext (Ext.trans (by repeat (first | with_reducible exact Ext.refl _ | with_reducible refine Ext.drew ?_ | with_reducible refine Ext.drewN ?_ _ | with_reducible refine Ext.alloc ?_ _ | with_reducible refine Ext.setCell ?_ (by first | omega | (simp; done) | (simp; omega)) _)) hx5))
  replace HB := Lib.hid (HB.out.ext (Ext.trans (by repeat (first | with_reducible exact Ext.refl _ | with_reducible refine Ext.drew ?_ | with_reducible refine Ext.drewN ?_ _ | with_reducible refine Ext.alloc ?_ _ | with_reducible refine Ext.setCell ?_ (by first | omega | (simp; done) | (simp; omega)) _)) hx5))
  replace HY := Lib.hid (HY.out.ext (Ext.trans (by repeat (first | with_reducible exact Ext.refl _ | with_reducible refine Ext.drew ?_ | with_reducible refine Ext.drewN ?_ _ | with_reducible refine Ext.alloc ?_ _ | with_reducible refine Ext.setCell ?_ (by first | omega | (simp; done) | (simp; omega)) _)) hx5))
  replace HQ5 := Lib.hid (HQ5.out.ext (Ext.trans (by repeat (first | with_reducible exact Ext.refl _ | with_reducible refine Ext.drew ?_ | with_reducible refine Ext.drewN ?_ _ | with_reducible refine Ext.alloc ?_ _ | with_reducible refine Ext.setCell ?_ (by first | omega | (simp; done) | (simp; omega)) _)) hx5))
  have X5 : Hid (Ext w w5) := Lib.hid (Ext.trans (by repeat (first | with_reducible exact X4.out | with_reducible refine Ext.drew ?_ | with_reducible refine Ext.drewN ?_ _ | with_reducible refine Ext.alloc ?_ _ | with_reducible refine Ext.setCell ?_ (by first | omega | (simp; done) | (simp; omega)) _)) hx5)
  have HZ := Lib.hid hO6
  clear X4 hx5 z5 hO6
  go_wp2_with fail
  (with_reducible refine (kSameBytes_eq A6 A0 _ c6 _ c0 M HM.out _ (HZ.out.ext (by repeat (first | with_reducible exact Ext.refl _ | with_reducible refine Ext.drew ?_ | with_reducible refine Ext.drewN ?_ _ | with_reducible refine Ext.alloc ?_ _ | with_reducible refine Ext.setCell ?_ (by first | omega | (simp; done) | (simp; omega)) _))).sl (HB.out.ext (by repeat (first | with_reducible exact Ext.refl _ | with_reducible refine Ext.drew ?_ | with_reducible refine Ext.drewN ?_ _ | with_reducible refine Ext.alloc ?_ _ | with_reducible refine Ext.setCell ?_ (by first | omega | (simp; done) | (simp; omega)) _)))).mono ?_)
  rintro e w_1 ⟨rfl, rfl⟩
  go_wp2_with fail
  go_ret
  exact ⟨rfl, (by repeat (first | with_reducible exact X5.out | with_reducible refine Ext.drew ?_ | with_reducible refine Ext.drewN ?_ _ | with_reducible refine Ext.alloc ?_ _ | with_reducible refine Ext.setCell ?_ (by first | omega | (simp; done) | (simp; omega)) _))⟩
set_option maxRecDepth 100000 in
set_option maxHeartbeats 4000000 in
theorem QueueBack_nbad (A A0 : Option Addr) (c c0 : Nat) (l R : List (Int × Int × Int × Int × Int × Int × Int × Int)) (M : List Nat) (q qa re ra : Int) (w : World) (hs : Sl w 8 A l.length c (l.flatMap entC)) (hw : ∀ x ∈ l, FitsQ x) (hb : Sl w 1 A0 M.length c0 (by_ M)) (hM : Byt M) (hnil0 : A0 = none → c0 = 0) (hl : l.length ≤ 60) (hl0 : M.length ≤ 600) (hq : (q, qa) = chkQ l) (h3 : (R, re, ra) = queRV M) (hq0 : ¬ q = 0) (he : ¬ re = 0) :
    Calls Try.prog 9 #[.slice A l.length c, .slice A0 M.length c0] w fun r w' => r = .returned (.bool true) ∧ Ext w w' := by
  have hMd : ¬ (60 : Int) < (l.length : Int) := by omega
  have hMe : ¬ (600 : Int) < (M.length : Int) := by omega
  have s1 := hs.small
  have s2 := hb.small
  have hre : re = (queRV M).2.1 := by rw [← h3]
  have hra : ra = (queRV M).2.2 := by rw [← h3]
  have hR1 : R = (queRV M).1 := by rw [← h3]
  have e32 : (q != q) = false := by simp
  have hsm := queB_small hw (by omega)
  have HBY := Lib.hid (queB_byt l)
  obtain ⟨BL, hBL⟩ : ∃ B, B = queB l := ⟨_, rfl⟩
  rw [← hBL] at hsm HBY
  have F1 := Lib.hid (show (BL, q) = (queB l, (chkQ l).1) from by rw [hBL, ← hq])
  have hnl : R = [] := by rw [hR1]; exact queRV_nil (by rw [← hre]; exact he)
  subst hnl
  have e56 : (re == 0) = false := by simpa using he
  have e34 : (q == 0) = false := by simpa using hq0
  have HS := Lib.hid hs
  have HW := Lib.hid hw
  have HB := Lib.hid hb
  have F3 := Lib.hid h3
  have HQ := Lib.hid hq
  have HM := Lib.hid hM
  have HN0 := Lib.hid hnil0
  have qn := flt_neq
  have qg := flt_eqg
  clear hs hw hb h3 hM hnil0 hre hR1 hq hBL hra he hq0
  go_enter Try.func9, Try.ntmps9
  go_wp2_with fail
  (with_reducible refine (QueueKnown_any _).mono ?_)
  rintro e w1 ⟨rfl, hx1⟩
  have z1 := hx1.size
  try simp at z1
  replace HS := Lib.hid (HS.out.ext (Ext.trans (by repeat (first | with_reducible exact Ext.refl _ | with_reducible refine Ext.drew ?_ | with_reducible refine Ext.drewN ?_ _ | with_reducible refine Ext.alloc ?_ _ | with_reducible refine Ext.setCell ?_ (by first | omega | (simp; done) | (simp; omega)) _)) hx1))
  replace HB := Lib.hid (HB.out.ext (Ext.trans (by repeat (first | with_reducible exact Ext.refl _ | with_reducible refine Ext.drew ?_ | with_reducible refine Ext.drewN ?_ _ | with_reducible refine Ext.alloc ?_ _ | with_reducible refine Ext.setCell ?_ (by first | omega | (simp; done) | (simp; omega)) _)) hx1))
  have X1 : Hid (Ext w w1) := Lib.hid (Ext.trans (by repeat (first | with_reducible exact Ext.refl w | with_reducible refine Ext.drew ?_ | with_reducible refine Ext.drewN ?_ _ | with_reducible refine Ext.alloc ?_ _ | with_reducible refine Ext.setCell ?_ (by first | omega | (simp; done) | (simp; omega)) _)) hx1)
  clear hx1 z1
  go_wp2_with fail
  (with_reducible refine (qcheck_ev A l.length c l q qa _ (HS.out.ext (by repeat (first | with_reducible exact Ext.refl _ | with_reducible refine Ext.drew ?_ | with_reducible refine Ext.drewN ?_ _ | with_reducible refine Ext.alloc ?_ _ | with_reducible refine Ext.setCell ?_ (by first | omega | (simp; done) | (simp; omega)) _))) HW.out HQ.out).mono ?_)
  rintro e w2 ⟨rfl, hx2⟩
  have z2 := hx2.size
  try simp at z2
  replace HS := Lib.hid (HS.out.ext (Ext.trans (by repeat (first | with_reducible exact Ext.refl _ | with_reducible refine Ext.drew ?_ | with_reducible refine Ext.drewN ?_ _ | with_reducible refine Ext.alloc ?_ _ | with_reducible refine Ext.setCell ?_ (by first | omega | (simp; done) | (simp; omega)) _)) hx2))
  replace HB := Lib.hid (HB.out.ext (Ext.trans (by repeat (first | with_reducible exact Ext.refl _ | with_reducible refine Ext.drew ?_ | with_reducible refine Ext.drewN ?_ _ | with_reducible refine Ext.alloc ?_ _ | with_reducible refine Ext.setCell ?_ (by first | omega | (simp; done) | (simp; omega)) _)) hx2))
  have X2 : Hid (Ext w w2) := Lib.hid (Ext.trans (by repeat (first | with_reducible exact X1.out | with_reducible refine Ext.drew ?_ | with_reducible refine Ext.drewN ?_ _ | with_reducible refine Ext.alloc ?_ _ | with_reducible refine Ext.setCell ?_ (by first | omega | (simp; done) | (simp; omega)) _)) hx2)
  clear X1 hx2 z2
  go_wp2_with fail
  (with_reducible refine (qBytes_e A c l BL q _ (HS.out.ext (by repeat (first | with_reducible exact Ext.refl _ | with_reducible refine Ext.drew ?_ | with_reducible refine Ext.drewN ?_ _ | with_reducible refine Ext.alloc ?_ _ | with_reducible refine Ext.setCell ?_ (by first | omega | (simp; done) | (simp; omega)) _))) HW.out (by omega) F1.out).mono ?_)
  rintro e w3 ⟨A3, c3, rfl, hn3, hO3, hx3⟩
  have z3 := hx3.size
  try simp at z3
  replace HS := Lib.hid (HS.out.ext (Ext.trans (by repeat (first | with_reducible exact Ext.refl _ | with_reducible refine Ext.drew ?_ | with_reducible refine Ext.drewN ?_ _ | with_reducible refine Ext.alloc ?_ _ | with_reducible refine Ext.setCell ?_ (by first | omega | (simp; done) | (simp; omega)) _)) hx3))
  replace HB := Lib.hid (HB.out.ext (Ext.trans (by repeat (first | with_reducible exact Ext.refl _ | with_reducible refine Ext.drew ?_ | with_reducible refine Ext.drewN ?_ _ | with_reducible refine Ext.alloc ?_ _ | with_reducible refine Ext.setCell ?_ (by first | omega | (simp; done) | (simp; omega)) _)) hx3))
  have X3 : Hid (Ext w w3) := Lib.hid (Ext.trans (by repeat (first | with_reducible exact X2.out | with_reducible refine Ext.drew ?_ | with_reducible refine Ext.drewN ?_ _ | with_reducible refine Ext.alloc ?_ _ | with_reducible refine Ext.setCell ?_ (by first | omega | (simp; done) | (simp; omega)) _)) hx3)
  have HY := Lib.hid hO3
  clear X2 hx3 z3 hO3
  have HN3 := Lib.hid hn3
  clear hn3
  go_wp2_with fail
  (with_reducible refine (qRead_e A0 c0 M [] re ra HM.out (by omega) HN0.out _ (HB.out.ext (by repeat (first | with_reducible exact Ext.refl _ | with_reducible refine Ext.drew ?_ | with_reducible refine Ext.drewN ?_ _ | with_reducible refine Ext.alloc ?_ _ | with_reducible refine Ext.setCell ?_ (by first | omega | (simp; done) | (simp; omega)) _))) F3.out).mono ?_)
  rintro e w4 ⟨A5, c5, rfl, _, hO5, hx4⟩
  have z4 := hx4.size
  try simp at z4
  replace HS := Lib.hid (HS.out.ext (Ext.trans (by repeat (first | with_reducible exact Ext.refl _ | with_reducible refine Ext.drew ?_ | with_reducible refine Ext.drewN ?_ _ | with_reducible refine Ext.alloc ?_ _ | with_reducible refine Ext.setCell ?_ (by first | omega | (simp; done) | (simp; omega)) _)) hx4))
  replace HB := Lib.hid (HB.out.ext (Ext.trans (by repeat (first | with_reducible exact Ext.refl _ | with_reducible refine Ext.drew ?_ | with_reducible refine Ext.drewN ?_ _ | with_reducible refine Ext.alloc ?_ _ | with_reducible refine Ext.setCell ?_ (by first | omega | (simp; done) | (simp; omega)) _)) hx4))
  replace HY := Lib.hid (HY.out.ext (Ext.trans (by repeat (first | with_reducible exact Ext.refl _ | with_reducible refine Ext.drew ?_ | with_reducible refine Ext.drewN ?_ _ | with_reducible refine Ext.alloc ?_ _ | with_reducible refine Ext.setCell ?_ (by first | omega | (simp; done) | (simp; omega)) _)) hx4))
  have X4 : Hid (Ext w w4) := Lib.hid (Ext.trans (by repeat (first | with_reducible exact X3.out | with_reducible refine Ext.drew ?_ | with_reducible refine Ext.drewN ?_ _ | with_reducible refine Ext.alloc ?_ _ | with_reducible refine Ext.setCell ?_ (by first | omega | (simp; done) | (simp; omega)) _)) hx4)
  have HQ5 := Lib.hid hO5
  clear X3 hx4 z4 hO5
  go_wp2_with fail
  go_ret
  exact ⟨rfl, (by repeat (first | with_reducible exact X4.out | with_reducible refine Ext.drew ?_ | with_reducible refine Ext.drewN ?_ _ | with_reducible refine Ext.alloc ?_ _ | with_reducible refine Ext.setCell ?_ (by first | omega | (simp; done) | (simp; omega)) _))⟩
theorem QueueBack_any (A : Option Addr) (c : Nat) (l : List (Int × Int × Int × Int × Int × Int × Int × Int)) (A0 : Option Addr) (c0 : Nat) (M : List Nat) (w : World) (hs : Sl w 8 A l.length c (l.flatMap entC)) (hw : ∀ x ∈ l, FitsQ x) (_ : A = none → c = 0) (hb : Sl w 1 A0 M.length c0 (by_ M)) (hM : Byt M) (hnil0 : A0 = none → c0 = 0) :
    Calls Try.prog 9 #[.slice A l.length c, .slice A0 M.length c0] w fun r w' => r = .returned (.bool true) ∧ Ext w w' := by
  by_cases hl : l.length ≤ 60 ∧ M.length ≤ 600
  · by_cases hq : (chkQ l).1 = 0
    · by_cases he : (queRV M).2.1 = 0
      · exact QueueBack_zok A A0 c c0 l (queRV M).1 M (chkQ l).1 (chkQ l).2 (queRV M).2.1 (queRV M).2.2 w hs hw hb hM hnil0 hl.1 hl.2 rfl rfl hq he
      · exact QueueBack_zbad A A0 c c0 l (queRV M).1 M (chkQ l).1 (chkQ l).2 (queRV M).2.1 (queRV M).2.2 w hs hw hb hM hnil0 hl.1 hl.2 rfl rfl hq he
    · by_cases he : (queRV M).2.1 = 0
      · exact QueueBack_nok A A0 c c0 l (queRV M).1 M (chkQ l).1 (chkQ l).2 (queRV M).2.1 (queRV M).2.2 w hs hw hb hM hnil0 hl.1 hl.2 rfl rfl hq he
      · exact QueueBack_nbad A A0 c c0 l (queRV M).1 M (chkQ l).1 (chkQ l).2 (queRV M).2.1 (queRV M).2.2 w hs hw hb hM hnil0 hl.1 hl.2 rfl rfl hq he
  · exact QueueBack_long A A0 c l.length c0 M.length w (by omega) hs.small hb.small
end
end Go.Proofs.Ytnbeejgppooamaa
