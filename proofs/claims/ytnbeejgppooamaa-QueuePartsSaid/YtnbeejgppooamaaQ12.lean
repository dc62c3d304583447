/- queues: which are ripe. Conditions stand in each lemma. -/
import Derived.Test.YtnbeejgppooamaaQ11
import Derived.Test.YtnbeejgppooamaaAppTwo
set_option linter.unusedVariables false
set_option linter.unusedSimpArgs false
namespace Go.Proofs.Ytnbeejgppooamaa
open Go.RowKit Go.ChangeShapes Go.WideShapes Go.Deep Go.Joins

set_option maxRecDepth 100000 in
set_option maxHeartbeats 4000000 in
theorem sortSearch_at (g : Nat) (bd cp : Array Value) (n m : Nat) (w : World) (eg : ∀ args w, (callFunc g args).run Try.prog w = .ok (.enter g args) w) (hn : n < 4611686018427387904) (hm : m ≤ n)
    (hf : ∀ (wx : World) (i : Nat), Ext w wx → i < n → Calls Try.prog g (bd ++ #[.int .i64 (i : Int)] ++ cp) wx fun e w' => e = .returned (.bool (decide (m ≤ i))) ∧ Ext wx w') :
    Calls Try.prog 56 #[.int .i64 n, .func (.func g) bd cp] w fun e w' => e = .returned (.int .i64 (m : Int)) ∧ Ext w w' := by
  have HF := Lib.hid hf
  clear hf
  go_enter Try.func56, Try.ntmps56
  go_wp2
  go_loopg [5, 6] n (fun gh s5 s6 wr => ∃ (lo hi : Nat), s5 = .int .i64 lo ∧ s6 = .int .i64 hi ∧ lo ≤ m ∧ m ≤ hi ∧ hi ≤ n ∧ hi - lo ≤ gh ∧ Hid (Ext w wr))
  case atStart => exact ⟨0, n, rfl, rfl, Nat.zero_le _, hm, Nat.le_refl _, by omega, Lib.hid (Ext.refl _)⟩
  case round =>
    obtain ⟨lo, hi, rfl, rfl, h1, h2, h3, h4, X⟩ := hrel
    by_cases hlt : lo < hi
    · have hc := HF.out wr ((lo + hi) / 2) X.out (by omega)
      rw [show (((lo + hi) / 2 : Nat) : Int) = ((lo : Int) + (hi : Int)) / 2 by omega] at hc
      by_cases hp : m ≤ (lo + hi) / 2
      · rw [decide_eq_true hp] at hc
        go_wp2_with (go_at_fn g; refine hc.mono ?_; rintro e w' ⟨rfl, hx⟩; have X2 := Lib.hid (Ext.trans X.out hx); clear hx hc)
        go_roundg ((lo + hi) / 2 - lo)
        case measure => omega
        case rel => exact ⟨lo, (lo + hi) / 2, rfl, by rw [show ((lo : Int) + (hi : Int)) / 2 = (((lo + hi) / 2 : Nat) : Int) by omega], h1, hp, by omega, by omega, X2⟩
      · rw [decide_eq_false hp] at hc
        go_wp2_with (go_at_fn g; refine hc.mono ?_; rintro e w' ⟨rfl, hx⟩; have X2 := Lib.hid (Ext.trans X.out hx); clear hx hc)
        go_roundg (hi - ((lo + hi) / 2 + 1))
        case measure => omega
        case rel => exact ⟨(lo + hi) / 2 + 1, hi, by rw [show ((lo : Int) + (hi : Int)) / 2 + 1 = (((lo + hi) / 2 + 1 : Nat) : Int) by omega], rfl, by omega, h2, h3, by omega, X2⟩
    · obtain rfl : lo = m := by omega
      obtain rfl : hi = lo := by omega
      go_wp2
      go_ret
      exact ⟨rfl, X.out⟩
theorem splitQ_false {α : Type} {l : List α} {q : α → Bool} (h : ∀ x ∈ l, q x = false) : l.filter q = [] ∧ l.filter (fun x => !q x) = l := by
  refine ⟨List.filter_eq_nil_iff.2 (fun x hx => by rw [h x hx]; simp), List.filter_eq_self.2 (fun x hx => by rw [h x hx]; rfl)⟩
/-- a list of which what holds stands ahead of what does not, split -/
theorem splitQ_mono {α : Type} (q : α → Bool) : ∀ (l : List α), l.Pairwise (fun x y => q y = true → q x = true) →
    ∃ m, m ≤ l.length ∧ l.filter q = l.take m ∧ l.filter (fun x => !q x) = l.drop m ∧ ∀ (k : Nat) x, l[k]? = some x → q x = decide (k < m)
  | [], _ => ⟨0, Nat.le_refl _, rfl, rfl, fun k x h => by simp at h⟩
  | a :: l, h => by
    obtain ⟨h0, hP⟩ := List.pairwise_cons.1 h
    cases ha : q a with
    | false =>
      have hall : ∀ x ∈ a :: l, q x = false := by
        intro x hx
        rcases List.mem_cons.1 hx with rfl | hx
        · exact ha
        · cases hq : q x with
          | false => rfl
          | true => have := h0 x hx hq; rw [ha] at this; cases this
      obtain ⟨h1, h2⟩ := splitQ_false hall
      refine ⟨0, Nat.zero_le _, h1, h2, fun k x hk => ?_⟩
      rw [hall x (List.mem_of_getElem? hk)]
      simp
    | true =>
      obtain ⟨m, h1, h2, h3, h4⟩ := splitQ_mono q l hP
      refine ⟨m + 1, by simpa using h1, by rw [List.filter_cons_of_pos ha, h2]; rfl, by rw [List.filter_cons_of_neg (by rw [ha]; simp), h3]; rfl, fun k x hk => ?_⟩
      cases k with
      | zero => simp at hk; subst hk; rw [ha]; simp
      | succ k => rw [h4 k x (by simpa using hk)]; simp
theorem oneQ_cases {x : (Int × Int × Int × Int × Int × Int × Int × Int)} {a : Int} (h : oneQ x a = 0) : 0 ≤ x.1 ∧ x.1 < 64 ∧ chkS x.2.1 x.2.2.1 x.2.2.2.1 x.2.2.2.2.1 = 0 ∧ 1 ≤ crE x ∧ crE x ≤ 4294967296 ∧ x.2.2.1 ≤ crE x ∧ a ≤ crE x ∧ x.2.2.2.2.2.2.1 ≠ 0 ∧ baE x ≤ x.2.2.2.2.2.2.1 := oneG_cases h
/-- a list in which each entry may be behind the one ahead of it -/
theorem chkGo_ok : ∀ {l : List (Int × Int × Int × Int × Int × Int × Int × Int)} {a : Int} {k : Nat}, (chkGo a k l).1 = 0 → (∀ x ∈ l, a ≤ crE x ∧ ∃ b, oneQ x b = 0) ∧ l.Pairwise (fun x y => crE x ≤ crE y)
  | [], _, _, _ => ⟨fun x h => (by cases h), List.Pairwise.nil⟩
  | x :: l, a, k, h => by
    unfold chkGo at h
    by_cases hx : oneQ x a = 0
    · rw [if_neg (by simpa using hx)] at h
      obtain ⟨h1, h2⟩ := chkGo_ok h
      obtain ⟨_, _, _, _, _, _, h3, _, _⟩ := oneQ_cases hx
      refine ⟨fun y hy => ?_, List.pairwise_cons.2 ⟨fun y hy => (h1 y hy).1, h2⟩⟩
      rcases List.mem_cons.1 hy with rfl | hy
      · exact ⟨h3, a, hx⟩
      · exact ⟨by have := (h1 y hy).1; omega, (h1 y hy).2⟩
    · rw [if_pos hx] at h
      exact absurd h hx
theorem chkQ_go {l : List (Int × Int × Int × Int × Int × Int × Int × Int)} (h : (chkQ l).1 = 0) : (chkGo 0 0 l).1 = 0 := by
  unfold chkQ at h
  by_cases h1 : 32768 < l.length
  · rw [if_pos h1] at h; cases h
  · rw [if_neg h1] at h
    by_cases h2 : (chkGo 0 0 l).1 = 0
    · exact h2
    · rw [if_pos h2] at h; exact absurd h h2
theorem chkQ_sorted {l : List (Int × Int × Int × Int × Int × Int × Int × Int)} (h : (chkQ l).1 = 0) : l.Pairwise (fun x y => crE x ≤ crE y) := (chkGo_ok (chkQ_go h)).2
theorem chkQ_may {l : List (Int × Int × Int × Int × Int × Int × Int × Int)} (h : (chkQ l).1 = 0) : ∀ x ∈ l, ∃ b, oneQ x b = 0 := fun x hx => ((chkGo_ok (chkQ_go h)).1 x hx).2
/-- why nothing is told of ripe entries; which are ripe, which are left -/
def ripG (e1 u : Int) (b : Bool) : Int := if e1 ≠ 0 then e1 else if b = false then 3 else if u < 1 then 3 else if 1048576 < u then 3 else 0
def ripQE (l : List (Int × Int × Int × Int × Int × Int × Int × Int)) (h u : Int) : Int := ripG (chkQ l).1 u (decide (1 ≤ h) && decide (h ≤ 4294967296))
def isRip (h u : Int) (x : (Int × Int × Int × Int × Int × Int × Int × Int)) : Bool := decide (crE x + u ≤ h)
def ripQ (l : List (Int × Int × Int × Int × Int × Int × Int × Int)) (h u : Int) : List (Int × Int × Int × Int × Int × Int × Int × Int) × List (Int × Int × Int × Int × Int × Int × Int × Int) × Int := if ripQE l h u = 0 then (l.filter (isRip h u), l.filter (fun x => !isRip h u x), 0) else ([], [], ripQE l h u)
/-- two windows of one row of one's own -/
def Two (w : World) (base e : Nat) (A1 : Option Addr) (n1 : Nat) (A2 : Option Addr) (n2 : Nat) : Prop :=
  (n1 = 0 ∧ n2 = 0) ∨ ∃ g N C K1 K2 xs, g < e ∧ w.ownsRow base 27 8 (.slice (some ⟨g, 0, none⟩) N C) N xs ∧ N ≤ 100000 ∧ (n1 = 0 ∨ A1 = some ⟨g, K1 * 8, none⟩ ∧ K1 + n1 ≤ N) ∧ (n2 = 0 ∨ A2 = some ⟨g, K2 * 8, none⟩ ∧ K2 + n2 ≤ N)
theorem Two.swap {w : World} {base e : Nat} {A1 A2 : Option Addr} {n1 n2 : Nat} (h : Two w base e A1 n1 A2 n2) : Two w base e A2 n2 A1 n1 := by
  rcases h with ⟨h1, h2⟩ | ⟨g, N, C, K1, K2, xs, h1, h2, h3, h4, h5⟩
  · exact .inl ⟨h2, h1⟩
  · exact .inr ⟨g, N, C, K2, K1, xs, h1, h2, h3, h5, h4⟩
theorem Two.ext {w w' : World} {base e : Nat} {A1 A2 : Option Addr} {n1 n2 : Nat} (h : Two w base e A1 n1 A2 n2) (hx : Ext w w') : Two w' base e A1 n1 A2 n2 := by
  rcases h with h | ⟨g, N, C, K1, K2, xs, h1, h2, h3, h4, h5⟩
  · exact .inl h
  · exact .inr ⟨g, N, C, K1, K2, xs, h1, own_keep h2 hx, h3, h4, h5⟩
theorem Two.nil {w : World} {base e : Nat} {A1 A2 : Option Addr} : Two w base e A1 0 A2 0 := .inl ⟨rfl, rfl⟩
set_option maxRecDepth 100000 in
theorem kOverEntries_nil (A : Option Addr) (c : Nat) (w : World) :
    Calls Try.prog 17 #[.slice A 0 c] w fun r w' => (∃ v, r = .returned v) ∧ w = w' := by
  go_enter Try.func17, Try.ntmps17
  go_wp2
  go_loopg [2] 0 (fun gh i wx => i = .int .i64 0 ∧ wx = w)
  case atStart => exact ⟨rfl, rfl⟩
  case round =>
    obtain ⟨rfl, rfl⟩ := hrel
    go_wp2
    go_end0
    exact ⟨⟨_, rfl⟩, rfl⟩
theorem kOverEntries_two (A1 A2 : Option Addr) (n1 n2 c base e : Nat) (w : World) (h : Two w base e A1 n1 A2 n2) :
    Calls Try.prog 17 #[.slice A1 n1 c] w fun r w' => (∃ v, r = .returned v) ∧ Two w' base e A1 n1 A2 n2 ∧ But (fun k => base ≤ k ∧ k < e) w w' := by
  by_cases h0 : n1 = 0
  · subst h0
    refine (kOverEntries_nil A1 c w).mono ?_
    rintro e w' ⟨h1, rfl⟩
    exact ⟨h1, h, But.refl _ _⟩
  · rcases h with ⟨h1, _⟩ | ⟨g, N, C, K1, K2, xs, h1, h2, h3, h4, h5⟩
    · exact absurd h1 h0
    · rcases h4 with h4 | ⟨rfl, h4⟩
      · exact absurd h4 h0
      · refine (kOverEntries_win g K1 N C n1 c base xs w h2 h4 h3).mono ?_
        rintro r w' ⟨hr, ⟨ys, hy⟩, hb⟩
        have hbg := (World.ownsRow.lt h2 g rfl).1
        exact ⟨hr, .inr ⟨g, N, C, K1, K2, ys, h1, hy, h3, .inr ⟨rfl, h4⟩, h5⟩, hb.mono (fun k _ hk => by subst hk; exact ⟨hbg, h1⟩)⟩
/-- two lists handed back that are only read; and as windows of one row -/
def RetRip (r1 r2 : List (Int × Int × Int × Int × Int × Int × Int × Int)) (er : Int) (w : World) (e : Ending) (w' : World) : Prop := ∃ A1 c1 A2 c2, e = .returned (.tuple #[.slice A1 r1.length c1, .slice A2 r2.length c2, .int .i64 er]) ∧ Sl w' 8 A1 r1.length c1 (r1.flatMap entC) ∧ Sl w' 8 A2 r2.length c2 (r2.flatMap entC) ∧ Two w' w.heap.size w'.heap.size A1 r1.length A2 r2.length ∧ Ext w w'
def RetRip2 (r1 r2 : List (Int × Int × Int × Int × Int × Int × Int × Int)) (er : Int) (w : World) (e : Ending) (w' : World) : Prop := ∃ A1 c1 A2 c2, e = .returned (.tuple #[.slice A1 r1.length c1, .slice A2 r2.length c2, .int .i64 er]) ∧ Sl w' 8 A1 r1.length c1 (r1.flatMap entC) ∧ Sl w' 8 A2 r2.length c2 (r2.flatMap entC) ∧ Ext w w'
theorem RetRip.nil {er : Int} {w w' : World} (hx : Ext w w') : RetRip [] [] er w (.returned (.tuple #[.slice none 0 0, .slice none 0 0, .int .i64 er])) w' :=
  ⟨none, 0, none, 0, rfl, OwnEnt.sl (OwnEnt.nil w' 0), OwnEnt.sl (OwnEnt.nil w' 0), Two.nil, hx⟩
theorem RetRip2.nil {er : Int} {w w' : World} (hx : Ext w w') : RetRip2 [] [] er w (.returned (.tuple #[.slice none 0 0, .slice none 0 0, .int .i64 er])) w' :=
  ⟨none, 0, none, 0, rfl, OwnEnt.sl (OwnEnt.nil w' 0), OwnEnt.sl (OwnEnt.nil w' 0), hx⟩
theorem RetRip.mk {base : Nat} {l : List (Int × Int × Int × Int × Int × Int × Int × Int)} {m n c : Nat} {A : Option Addr} {w w' : World} (h : OwnEnt w' w.heap.size (.slice A n c) n l) (hm : m ≤ n) (hl : l.length = n) (hn : n ≤ 100000) (hx : Ext w w') :
    RetRip (l.take m) (l.drop m) 0 w (.returned (.tuple #[.slice A m m, .slice (if c = m then A else A.map (·.add (m * 8))) (n - m) (c - m), .int .i64 0])) w' := by
  have hs := OwnEnt.sl h
  have e1 : (l.take m).length = m := by rw [List.length_take]; omega
  have e2 : (l.drop m).length = n - m := by rw [List.length_drop]; omega
  have t1 : (l.flatMap entC).take (m * 8) = (l.take m).flatMap entC := by
    conv => lhs; rw [← List.take_append_drop m l, List.flatMap_append]
    rw [List.take_append_of_le_length (by rw [flat_len entC_len, e1]; omega), List.take_of_length_le (by rw [flat_len entC_len, e1]; omega)]
  have t2 : (l.flatMap entC).drop (m * 8) = (l.drop m).flatMap entC := by
    conv => lhs; rw [← List.take_append_drop m l, List.flatMap_append]
    rw [List.drop_append_of_le_length (by rw [flat_len entC_len, e1]; omega), List.drop_eq_nil_of_le (by rw [flat_len entC_len, e1]; omega), List.nil_append]
  have s1 := hs.take hm
  have s2 := hs.drop hm
  rw [t1] at s1
  rw [t2] at s2
  refine ⟨A, m, _, c - m, by rw [e1, e2], ?_, by rw [e2]; exact s2, ?_, hx⟩
  · rw [e1]
    exact ⟨s1.1, Nat.le_refl _, by have := s1.2.1; have := s1.2.2.1; omega, s1.2.2.2⟩
  · rw [e1, e2]
    by_cases h0 : n = 0
    · obtain rfl : m = 0 := by omega
      subst h0
      exact Two.nil
    · obtain ⟨g, rfl, hg1, hg2⟩ := OwnEnt.box h (by omega)
      refine .inr ⟨g, n, c, 0, m, _, hg2, h, hn, .inr ⟨by simp, by omega⟩, ?_⟩
      by_cases hz : n - m = 0
      · exact .inl hz
      · have hc := hs.2.1
        rw [if_neg (by omega)]
        exact .inr ⟨by simp [addr_add], by omega⟩
theorem RetRip2.mk {r1 r2 : List (Int × Int × Int × Int × Int × Int × Int × Int)} {v1 v2 : Value} {b1 b2 : Nat} {w w' : World} (h1 : OwnEnt w' b1 v1 r1.length r1) (h2 : OwnEnt w' b2 v2 r2.length r2) (hx : Ext w w') : RetRip2 r1 r2 0 w (.returned (.tuple #[v1, v2, .int .i64 0])) w' := by
  obtain ⟨A1, c1, rfl, _, _⟩ := own_parts2 h1
  obtain ⟨A2, c2, rfl, _, _⟩ := own_parts2 h2
  exact ⟨A1, c1, A2, c2, rfl, OwnEnt.sl h1, OwnEnt.sl h2, hx⟩
set_option maxRecDepth 100000 in
set_option maxHeartbeats 4000000 in
theorem qRipe1_any (A : Option Addr) (n c k : Nat) (l : List (Int × Int × Int × Int × Int × Int × Int × Int)) (hh u y : Int) (xo xv xs xp xf xc xi xb : Int) (b : Bool) (p q r : Nat) (w : World) (h : Sl w 8 A n c (l.flatMap entC)) (hk : l[k]? = some (xo, xv, xs, xp, xf, xc, xi, xb)) (hwr : IntKind.i64.wrap (xc + u) = y) (hb : b = decide (hh < y)) (p_0 : w.cell? ⟨p, 0, none⟩ = some (.int .i64 hh)) (q_0 : w.cell? ⟨q, 0, none⟩ = some (.slice A n c)) (r_0 : w.cell? ⟨r, 0, none⟩ = some (.int .i64 u)) :
    Calls Try.prog 57 #[.int .i64 (k : Int), .pointer (some ⟨p, 0, none⟩), .pointer (some ⟨q, 0, none⟩), .pointer (some ⟨r, 0, none⟩)] w fun e w' => e = .returned (.bool b) ∧ Ext w w' := by
  have hl := h.rlen entC_len (by decide)
  have hkl := (List.getElem?_eq_some_iff.1 hk).1
  have hkn : (k : Int) < n := by omega
  obtain ⟨b1, o1, rfl, hb1, hc1⟩ := h.rec_ entC_len (show 0 < n from by omega)
  have x_5 := hc1 k _ hk 5 _ rfl
  simp only at x_5
  rw [← Nat.add_assoc] at x_5
  have hwr2 : Go.RowKit.wrap64 (xc + u) = y := by rw [← IntWalk.i64_left]; exact hwr
  have s1 := h.small
  have HS := Lib.hid h
  have HB := Lib.hid hb
  clear h hc1 hl hkl hk hb
  go_enter Try.func57, Try.ntmps57
  go_wp2_with fail
  refine wp_region_held_drew (S := fun w' => w'.cell? ⟨p, 0, none⟩ = some (.int .i64 hh) ∧ w'.cell? ⟨q, 0, none⟩ = some (.slice (some ⟨b1, o1, none⟩) n c) ∧ w'.cell? ⟨r, 0, none⟩ = some (.int .i64 u) ∧ w'.cell? ⟨b1, o1 + k * 8 + 5, none⟩ = some (.int .i64 xc)) (by kernel_rfl) (by first | exact ⟨p_0, q_0, r_0, x_5⟩ | (simp [go_sem, World.cell?_alloc_past, p_0, q_0, r_0, x_5]; done)) (fun hHeld => ?_)
  (refine' take_in 0 rfl (by kernel_rfl) (by kernel_rfl) (by kernel_rfl) (fun _ _ _ h => h) (by rfl) (by assumption) ?_ ?_; rotate_left; focus (intro w hSw; (try dsimp only at hSw); go_simp; try with_reducible rfl)); try simp only [Act.put, List.setIfInBounds_toArray, List.set_cons_zero, List.set_cons_succ]
  (refine' take_in 1 rfl (by kernel_rfl) (by kernel_rfl) (by kernel_rfl) (fun _ _ _ h => h) (by rfl) (by assumption) ?_ ?_; rotate_left; focus (intro w hSw; (try dsimp only at hSw); go_simp; try with_reducible rfl)); try simp only [Act.put, List.setIfInBounds_toArray, List.set_cons_zero, List.set_cons_succ]
  (refine' take_in 2 rfl (by kernel_rfl) (by kernel_rfl) (by kernel_rfl) (fun _ _ _ h => h) (by rfl) (by assumption) ?_ ?_; rotate_left; focus (intro w hSw; (try dsimp only at hSw); go_simp; try with_reducible rfl)); try simp only [Act.put, List.setIfInBounds_toArray, List.set_cons_zero, List.set_cons_succ]
  (refine' take_in 3 rfl (by kernel_rfl) (by kernel_rfl) (by kernel_rfl) (fun _ _ _ h => h) (by rfl) (by assumption) ?_ ?_; rotate_left; focus (intro w hSw; (try dsimp only at hSw); go_simp; try with_reducible rfl)); try simp only [Act.put, List.setIfInBounds_toArray, List.set_cons_zero, List.set_cons_succ]
  (refine' take_in 4 rfl (by kernel_rfl) (by kernel_rfl) (by kernel_rfl) (fun _ _ _ h => h) (by rfl) (by assumption) ?_ ?_; rotate_left; focus (intro w hSw; (try dsimp only at hSw); go_simp; try with_reducible rfl)); try simp only [Act.put, List.setIfInBounds_toArray, List.set_cons_zero, List.set_cons_succ]
  (refine' take_in 5 rfl (by kernel_rfl) (by kernel_rfl) (by kernel_rfl) (fun _ _ _ h => h) (by rfl) (by assumption) ?_ ?_; rotate_left; focus (intro w hSw; (try dsimp only at hSw); go_simp; try with_reducible rfl)); try simp only [Act.put, List.setIfInBounds_toArray, List.set_cons_zero, List.set_cons_succ]
  (refine' take_in 6 rfl (by kernel_rfl) (by kernel_rfl) (by kernel_rfl) (fun _ _ _ h => h) (by rfl) (by assumption) ?_ ?_; rotate_left; focus (intro w hSw; (try dsimp only at hSw); go_simp; try with_reducible rfl)); try simp only [Act.put, List.setIfInBounds_toArray, List.set_cons_zero, List.set_cons_succ]
  (refine' take_in 7 rfl (by kernel_rfl) (by kernel_rfl) (by kernel_rfl) (fun _ _ _ h => h) (by rfl) (by assumption) ?_ ?_; rotate_left; focus (intro w hSw; (try dsimp only at hSw); go_simp; try with_reducible rfl)); try simp only [Act.put, List.setIfInBounds_toArray, List.set_cons_zero, List.set_cons_succ]
  (refine' take_in 8 rfl (by kernel_rfl) (by kernel_rfl) (by kernel_rfl) (fun _ _ _ h => h) (by rfl) (by assumption) ?_ ?_; rotate_left; focus (intro w hSw; (try dsimp only at hSw); go_simp; try with_reducible rfl)); try simp only [Act.put, List.setIfInBounds_toArray, List.set_cons_zero, List.set_cons_succ]
  (refine' take_in 9 rfl (by kernel_rfl) (by kernel_rfl) (by kernel_rfl) (fun _ _ _ h => h) (by rfl) (by assumption) ?_ ?_; rotate_left; focus (intro w hSw; (try dsimp only at hSw); go_simp; try with_reducible rfl)); try simp only [Act.put, List.setIfInBounds_toArray, List.set_cons_zero, List.set_cons_succ]
  refine wpAnyH_done (by kernel_rfl) ?_ _
  go_wp2_with fail
  go_ret
  exact ⟨by rw [HB.out]; first | done | rfl | simp, (by repeat (first | with_reducible exact Ext.refl w | with_reducible refine Ext.drew ?_ | with_reducible refine Ext.drewN ?_ _ | with_reducible refine Ext.alloc ?_ _ | with_reducible refine Ext.setCell ?_ (by first | omega | (simp; done) | (simp; omega)) _))⟩
set_option maxRecDepth 100000 in
set_option maxHeartbeats 4000000 in
theorem qripe_at (A : Option Addr) (n c : Nat) (l : List (Int × Int × Int × Int × Int × Int × Int × Int)) (h u e1 e2 er : Int) (hb : Bool) (m : Nat) (w : World) (hs : Sl w 8 A n c (l.flatMap entC)) (hn : n ≤ 100000) (hf : ∀ x ∈ l, FitsQ x) (hnil : A = none → c = 0) (he : chkQ l = (e1, e2)) (hhb : hb = (decide (1 ≤ h) && decide (h ≤ 4294967296))) (hv : er = ripG e1 u hb) (R1 R2 : List (Int × Int × Int × Int × Int × Int × Int × Int)) (hR : (R1, R2) = if er = 0 then (l.filter (isRip h u), l.filter (fun x => !isRip h u x)) else ([], [])) (hm : er = 0 → m ≤ n ∧ l.filter (isRip h u) = l.take m ∧ l.filter (fun x => !isRip h u x) = l.drop m ∧ ∀ (k : Nat) x, l[k]? = some x → isRip h u x = decide (k < m)) :
    Calls Try.prog 28 #[.slice A n c, .int .i64 h, .int .i64 u] w (RetRip R1 R2 er w) := by
  obtain ⟨i0, hi0, hz0, hz1, hz2⟩ := ent_infoP
  have hll := hs.rlen entC_len (by decide)
  have hns := hs.small
  have hcap := hs.2.1
  have HLL := Lib.hid hll
  have HS := Lib.hid hs
  have HS0 := Lib.hid hs
  have HF := Lib.hid hf
  have HV := Lib.hid hv
  have HR := Lib.hid hR
  have HN := Lib.hid hnil
  have HE1 := Lib.hid he
  have HM := Lib.hid hm
  have hmf : ∀ (fn : Fn) (first cap : Array Value) (w : World), (Instr.makeFunc fn first cap).run Try.prog w = .ok (.func fn first cap) w := fun _ _ _ _ => rfl
  have eg : ∀ (args : Array Value) (w : World), (callFunc 57 args).run Try.prog w = .ok (.enter 57 args) w := enters_of (P := Try.prog) Try.func57 (by kernel_rfl) rfl
  clear hm
  have CC := Lib.hid (fun w' (hx : Ext w w') => qcheck_any A n c l e1 e2 w' (hs.ext hx) hf he)
  have CH := Lib.hid (fun w' => qheight_any h hb hhb w')
  clear hs hf he hhb hv hR hnil hll
  go_enter Try.func28, Try.ntmps28
  go_wp2_with fail
  (with_reducible refine (CC.out _ (by repeat (first | with_reducible exact Ext.refl w | with_reducible refine Ext.drew ?_ | with_reducible refine Ext.drewN ?_ _ | with_reducible refine Ext.alloc ?_ _ | with_reducible refine Ext.setCell ?_ (by first | omega | (simp; done) | (simp; omega)) _))).mono ?_)
  rintro e w1 ⟨rfl, hx1⟩
  have c0_0 : w1.cell? ⟨w.heap.size, 0, none⟩ = some (.slice A n c) := hx1.has (by first | fail | (simp [go_sem, World.cell?_alloc_past]; done))
  have c1_0 : w1.cell? ⟨w.heap.size + 1, 0, none⟩ = some (.int .i64 h) := hx1.has (by first | fail | (simp [go_sem, World.cell?_alloc_past]; done))
  have c2_0 : w1.cell? ⟨w.heap.size + 1 + 1, 0, none⟩ = some (.int .i64 u) := hx1.has (by first | fail | (simp [go_sem, World.cell?_alloc_past]; done))
  have z1 := hx1.size
  try simp at z1
  have lt_c0_c1 : w.heap.size < w.heap.size + 1 := by omega
  have ne_c0_c1 : ¬ w.heap.size = w.heap.size + 1 := by omega
  have lt_c0_c2 : w.heap.size < w.heap.size + 1 + 1 := by omega
  have ne_c0_c2 : ¬ w.heap.size = w.heap.size + 1 + 1 := by omega
  have ne_c1_c0 : ¬ w.heap.size + 1 = w.heap.size := by omega
  have lt_c1_c2 : w.heap.size + 1 < w.heap.size + 1 + 1 := by omega
  have ne_c1_c2 : ¬ w.heap.size + 1 = w.heap.size + 1 + 1 := by omega
  have ne_c2_c0 : ¬ w.heap.size + 1 + 1 = w.heap.size := by omega
  have ne_c2_c1 : ¬ w.heap.size + 1 + 1 = w.heap.size + 1 := by omega
  have rc0 : w.heap.size < w1.heap.size := by omega
  have rc0a : w.heap.size < w1.heap.size + 1 := by omega
  have rc0b : w.heap.size < w1.heap.size + 1 + 1 := by omega
  have rc0c : w.heap.size < w1.heap.size + 1 + 1 + 1 := by omega
  have rc0n : ¬ w.heap.size = w1.heap.size := by omega
  have rc1 : w.heap.size + 1 < w1.heap.size := by omega
  have rc1a : w.heap.size + 1 < w1.heap.size + 1 := by omega
  have rc1b : w.heap.size + 1 < w1.heap.size + 1 + 1 := by omega
  have rc1c : w.heap.size + 1 < w1.heap.size + 1 + 1 + 1 := by omega
  have rc1n : ¬ w.heap.size + 1 = w1.heap.size := by omega
  have rc2 : w.heap.size + 1 + 1 < w1.heap.size := by omega
  have rc2a : w.heap.size + 1 + 1 < w1.heap.size + 1 := by omega
  have rc2b : w.heap.size + 1 + 1 < w1.heap.size + 1 + 1 := by omega
  have rc2c : w.heap.size + 1 + 1 < w1.heap.size + 1 + 1 + 1 := by omega
  have rc2n : ¬ w.heap.size + 1 + 1 = w1.heap.size := by omega
  replace HS := Lib.hid (HS.out.ext (Ext.trans (by repeat (first | with_reducible exact Ext.refl _ | with_reducible refine Ext.drew ?_ | with_reducible refine Ext.drewN ?_ _ | with_reducible refine Ext.alloc ?_ _ | with_reducible refine Ext.setCell ?_ (by first | omega | (simp; done) | (simp; omega)) _)) hx1))
  have X1 : Hid (Ext w w1) := Lib.hid (Ext.trans (by repeat (first | with_reducible exact Ext.refl w | with_reducible refine Ext.drew ?_ | with_reducible refine Ext.drewN ?_ _ | with_reducible refine Ext.alloc ?_ _ | with_reducible refine Ext.setCell ?_ (by first | omega | (simp; done) | (simp; omega)) _)) hx1)
  clear hx1 z1
  by_cases q1 : ¬ e1 = 0
  · have q1b : (e1 != 0) = true := by simp [q1]
    go_wp2_with fail
    have hv9 : er = e1 := (by rw [HV.out]; unfold ripG; (repeat' split) <;> first | omega | simp_all)
    obtain ⟨rfl, rfl⟩ : R1 = [] ∧ R2 = [] := by have h := HR.out; rw [if_neg (by omega)] at h; simpa using h
    rw [hv9]
    refine bodyPost_ret (v := .tuple #[.slice none 0 0, .slice none 0 0, .int .i64 e1]) (by simp [results, Try.results28, go_sem, World.cell?_alloc_past, c0_0, c1_0, c2_0, ne_c0_c1, ne_c0_c2, ne_c1_c0, ne_c1_c2, ne_c2_c0, ne_c2_c1, rc0, rc0a, rc0b, rc0c, rc0n, rc1, rc1a, rc1b, rc1c, rc1n, rc2, rc2a, rc2b, rc2c, rc2n]; try rfl) rfl (RetRip.nil ?_)
    exact (by repeat (first | with_reducible exact X1.out | with_reducible refine Ext.drew ?_ | with_reducible refine Ext.drewN ?_ _ | with_reducible refine Ext.alloc ?_ _ | with_reducible refine Ext.setCell ?_ (by first | omega | (simp; done) | (simp; omega)) _))
  · have q1b : (e1 != 0) = false := by simpa using q1
    cases hb
    · go_wp2_with fail
      (with_reducible refine (CH.out _).mono ?_)
      rintro e w_1 ⟨rfl, rfl⟩
      go_wp2_with fail
      have hv9 : er = 3 := (by rw [HV.out]; unfold ripG; (repeat' split) <;> first | omega | simp_all)
      obtain ⟨rfl, rfl⟩ : R1 = [] ∧ R2 = [] := by have h := HR.out; rw [if_neg (by omega)] at h; simpa using h
      rw [hv9]
      refine bodyPost_ret (v := .tuple #[.slice none 0 0, .slice none 0 0, .int .i64 3]) (by simp [results, Try.results28, go_sem, World.cell?_alloc_past, c0_0, c1_0, c2_0, ne_c0_c1, ne_c0_c2, ne_c1_c0, ne_c1_c2, ne_c2_c0, ne_c2_c1, rc0, rc0a, rc0b, rc0c, rc0n, rc1, rc1a, rc1b, rc1c, rc1n, rc2, rc2a, rc2b, rc2c, rc2n]; try rfl) rfl (RetRip.nil ?_)
      exact (by repeat (first | with_reducible exact X1.out | with_reducible refine Ext.drew ?_ | with_reducible refine Ext.drewN ?_ _ | with_reducible refine Ext.alloc ?_ _ | with_reducible refine Ext.setCell ?_ (by first | omega | (simp; done) | (simp; omega)) _))
    · by_cases q2 : u < 1
      · have d2 : decide (u < 1) = true := decide_eq_true q2
        have Q2 := Lib.hid q2
        clear q2
        go_wp2_with fail
        (with_reducible refine (CH.out _).mono ?_)
        rintro e w_1 ⟨rfl, rfl⟩
        go_wp2_with fail
        have q2 := Q2.out
        have hv9 : er = 3 := (by rw [HV.out]; unfold ripG; (repeat' split) <;> first | omega | simp_all)
        obtain ⟨rfl, rfl⟩ : R1 = [] ∧ R2 = [] := by have h := HR.out; rw [if_neg (by omega)] at h; simpa using h
        rw [hv9]
        refine bodyPost_ret (v := .tuple #[.slice none 0 0, .slice none 0 0, .int .i64 3]) (by simp [results, Try.results28, go_sem, World.cell?_alloc_past, c0_0, c1_0, c2_0, ne_c0_c1, ne_c0_c2, ne_c1_c0, ne_c1_c2, ne_c2_c0, ne_c2_c1, rc0, rc0a, rc0b, rc0c, rc0n, rc1, rc1a, rc1b, rc1c, rc1n, rc2, rc2a, rc2b, rc2c, rc2n]; try rfl) rfl (RetRip.nil ?_)
        exact (by repeat (first | with_reducible exact X1.out | with_reducible refine Ext.drew ?_ | with_reducible refine Ext.drewN ?_ _ | with_reducible refine Ext.alloc ?_ _ | with_reducible refine Ext.setCell ?_ (by first | omega | (simp; done) | (simp; omega)) _))
      · have d2 : decide (u < 1) = false := decide_eq_false q2
        have Q2 := Lib.hid q2
        clear q2
        go_wp2_with fail
        (with_reducible refine (CH.out _).mono ?_)
        rintro e w_1 ⟨rfl, rfl⟩
        by_cases q3 : 1048576 < u
        · have d3 : decide (1048576 < u) = true := decide_eq_true q3
          have Q3 := Lib.hid q3
          clear q3
          go_wp2_with fail
          have q2 := Q2.out
          have q3 := Q3.out
          have hv9 : er = 3 := (by rw [HV.out]; unfold ripG; (repeat' split) <;> first | omega | simp_all)
          obtain ⟨rfl, rfl⟩ : R1 = [] ∧ R2 = [] := by have h := HR.out; rw [if_neg (by omega)] at h; simpa using h
          rw [hv9]
          refine bodyPost_ret (v := .tuple #[.slice none 0 0, .slice none 0 0, .int .i64 3]) (by simp [results, Try.results28, go_sem, World.cell?_alloc_past, c0_0, c1_0, c2_0, ne_c0_c1, ne_c0_c2, ne_c1_c0, ne_c1_c2, ne_c2_c0, ne_c2_c1, rc0, rc0a, rc0b, rc0c, rc0n, rc1, rc1a, rc1b, rc1c, rc1n, rc2, rc2a, rc2b, rc2c, rc2n]; try rfl) rfl (RetRip.nil ?_)
          exact (by repeat (first | with_reducible exact X1.out | with_reducible refine Ext.drew ?_ | with_reducible refine Ext.drewN ?_ _ | with_reducible refine Ext.alloc ?_ _ | with_reducible refine Ext.setCell ?_ (by first | omega | (simp; done) | (simp; omega)) _))
        · have d3 : decide (1048576 < u) = false := decide_eq_false q3
          have Q3 := Lib.hid q3
          clear q3
          go_wp2_with fail
          have q2 := Q2.out
          have q3 := Q3.out
          obtain rfl : er = 0 := (by rw [HV.out]; unfold ripG; (repeat' split) <;> first | omega | simp_all)
          obtain ⟨h1, h2⟩ : R1 = l.filter (isRip h u) ∧ R2 = l.filter (fun x => !isRip h u x) := by have h := HR.out; rw [if_pos rfl] at h; simpa using h
          have he0 : (chkQ l).1 = 0 := by rw [HE1.out]; omega
          obtain ⟨hm0, hm1, hm2, hm3⟩ := HM.out rfl
          have hH : ∀ i : Nat, i < n → ∃ xo xv xs xp xf xc xi xb, l[i]? = some (xo, xv, xs, xp, xf, xc, xi, xb) ∧ IntKind.i64.wrap (xc + u) = xc + u ∧ decide (m ≤ i) = decide (h < xc + u) := by
            intro i hi
            obtain ⟨⟨xo, xv, xs, xp, xf, xc, xi, xb⟩, hk⟩ : ∃ x, l[i]? = some x := ⟨_, List.getElem?_eq_getElem (show i < l.length from by have := HLL.out; omega)⟩
            obtain ⟨b, hb9⟩ := chkQ_may he0 _ (List.mem_of_getElem? hk)
            obtain ⟨_, _, _, k1, k2, _⟩ := oneQ_cases hb9
            have k3 := hm3 i _ hk
            change 1 ≤ xc at k1
            change xc ≤ 4294967296 at k2
            unfold isRip at k3
            change decide (xc + u ≤ h) = decide (i < m) at k3
            refine ⟨xo, xv, xs, xp, xf, xc, xi, xb, hk, IntWalk.i64_in _ (by omega), ?_⟩
            rw [decide_eq_decide] at k3 ⊢
            omega
          have hmi : (m : Int) ≤ n := by omega
          have hmc : (m : Int) ≤ c := by omega
          have HH := Lib.hid hH
          have HM0 := Lib.hid (And.intro hm1 hm2)
          have HE := Lib.hid (And.intro h1 h2)
          clear hH hm1 hm2 hm3 he0 h1 h2 HM HR HV CC CH d2 d3 q1 q1b q2 q3 Q2 Q3
          (with_reducible refine (sortSearch_at 57 #[] #[.pointer (some ⟨w.heap.size + 1, 0, none⟩), .pointer (some ⟨w.heap.size, 0, none⟩), .pointer (some ⟨w.heap.size + 1 + 1, 0, none⟩)] n m _ eg (by omega) hm0 (fun wx i hx hi => by obtain ⟨xo, xv, xs, xp, xf, xc, xi, xb, k1, k2, k3⟩ := HH.out i hi; have hq := qRipe1_any A n c i l h u _ xo xv xs xp xf xc xi xb _ _ _ _ wx ((show Sl _ 8 A n c (l.flatMap entC) from (HS.out.ext (by repeat (first | with_reducible exact Ext.refl _ | with_reducible refine Ext.drew ?_ | with_reducible refine Ext.drewN ?_ _ | with_reducible refine Ext.alloc ?_ _ | with_reducible refine Ext.setCell ?_ (by first | omega | (simp; done) | (simp; omega)) _)))).ext hx) k1 k2 k3 (hx.has c1_0) (hx.has c0_0) (hx.has c2_0); simpa using hq)).mono ?_)
          rintro e w2 ⟨rfl, hx2⟩
          replace c0_0 : w2.cell? ⟨w.heap.size, 0, none⟩ = some (.slice A n c) := hx2.has (by first | exact c0_0 | (simp [go_sem, World.cell?_alloc_past, c0_0, c1_0, c2_0, ne_c0_c1, ne_c0_c2, ne_c1_c0, ne_c1_c2, ne_c2_c0, ne_c2_c1, rc0, rc0a, rc0b, rc0c, rc0n, rc1, rc1a, rc1b, rc1c, rc1n, rc2, rc2a, rc2b, rc2c, rc2n]; done))
          replace c1_0 : w2.cell? ⟨w.heap.size + 1, 0, none⟩ = some (.int .i64 h) := hx2.has (by first | exact c1_0 | (simp [go_sem, World.cell?_alloc_past, c0_0, c1_0, c2_0, ne_c0_c1, ne_c0_c2, ne_c1_c0, ne_c1_c2, ne_c2_c0, ne_c2_c1, rc0, rc0a, rc0b, rc0c, rc0n, rc1, rc1a, rc1b, rc1c, rc1n, rc2, rc2a, rc2b, rc2c, rc2n]; done))
          replace c2_0 : w2.cell? ⟨w.heap.size + 1 + 1, 0, none⟩ = some (.int .i64 u) := hx2.has (by first | exact c2_0 | (simp [go_sem, World.cell?_alloc_past, c0_0, c1_0, c2_0, ne_c0_c1, ne_c0_c2, ne_c1_c0, ne_c1_c2, ne_c2_c0, ne_c2_c1, rc0, rc0a, rc0b, rc0c, rc0n, rc1, rc1a, rc1b, rc1c, rc1n, rc2, rc2a, rc2b, rc2c, rc2n]; done))
          have z2 := hx2.size
          try simp at z2
          replace rc0 : w.heap.size < w2.heap.size := by omega
          replace rc0a : w.heap.size < w2.heap.size + 1 := by omega
          replace rc0b : w.heap.size < w2.heap.size + 1 + 1 := by omega
          replace rc0c : w.heap.size < w2.heap.size + 1 + 1 + 1 := by omega
          replace rc0n : ¬ w.heap.size = w2.heap.size := by omega
          replace rc1 : w.heap.size + 1 < w2.heap.size := by omega
          replace rc1a : w.heap.size + 1 < w2.heap.size + 1 := by omega
          replace rc1b : w.heap.size + 1 < w2.heap.size + 1 + 1 := by omega
          replace rc1c : w.heap.size + 1 < w2.heap.size + 1 + 1 + 1 := by omega
          replace rc1n : ¬ w.heap.size + 1 = w2.heap.size := by omega
          replace rc2 : w.heap.size + 1 + 1 < w2.heap.size := by omega
          replace rc2a : w.heap.size + 1 + 1 < w2.heap.size + 1 := by omega
          replace rc2b : w.heap.size + 1 + 1 < w2.heap.size + 1 + 1 := by omega
          replace rc2c : w.heap.size + 1 + 1 < w2.heap.size + 1 + 1 + 1 := by omega
          replace rc2n : ¬ w.heap.size + 1 + 1 = w2.heap.size := by omega
          replace HS := Lib.hid (HS.out.ext (Ext.trans (by repeat (first | with_reducible exact Ext.refl _ | with_reducible refine Ext.drew ?_ | with_reducible refine Ext.drewN ?_ _ | with_reducible refine Ext.alloc ?_ _ | with_reducible refine Ext.setCell ?_ (by first | omega | (simp; done) | (simp; omega)) _)) hx2))
          have X2 : Hid (Ext w w2) := Lib.hid (Ext.trans (by repeat (first | with_reducible exact X1.out | with_reducible refine Ext.drew ?_ | with_reducible refine Ext.drewN ?_ _ | with_reducible refine Ext.alloc ?_ _ | with_reducible refine Ext.setCell ?_ (by first | omega | (simp; done) | (simp; omega)) _)) hx2)
          clear X1 hx2 z2
          go_wp2_with fail
          have hlw := Ext.size X2.out
          (with_reducible refine (eClone_n A n c l _ (HS.out.ext (by repeat (first | with_reducible exact Ext.refl _ | with_reducible refine Ext.drew ?_ | with_reducible refine Ext.drewN ?_ _ | with_reducible refine Ext.alloc ?_ _ | with_reducible refine Ext.setCell ?_ (by first | omega | (simp; done) | (simp; omega)) _))) (by omega) HN.out).mono ?_)
          rintro e w3 ⟨A5, c5, rfl, hA5, hO5, hx3⟩
          replace c0_0 : w3.cell? ⟨w.heap.size, 0, none⟩ = some (.slice A n c) := hx3.has (by first | exact c0_0 | (simp [go_sem, World.cell?_alloc_past, c0_0, c1_0, c2_0, ne_c0_c1, ne_c0_c2, ne_c1_c0, ne_c1_c2, ne_c2_c0, ne_c2_c1, rc0, rc0a, rc0b, rc0c, rc0n, rc1, rc1a, rc1b, rc1c, rc1n, rc2, rc2a, rc2b, rc2c, rc2n]; done))
          replace c1_0 : w3.cell? ⟨w.heap.size + 1, 0, none⟩ = some (.int .i64 h) := hx3.has (by first | exact c1_0 | (simp [go_sem, World.cell?_alloc_past, c0_0, c1_0, c2_0, ne_c0_c1, ne_c0_c2, ne_c1_c0, ne_c1_c2, ne_c2_c0, ne_c2_c1, rc0, rc0a, rc0b, rc0c, rc0n, rc1, rc1a, rc1b, rc1c, rc1n, rc2, rc2a, rc2b, rc2c, rc2n]; done))
          replace c2_0 : w3.cell? ⟨w.heap.size + 1 + 1, 0, none⟩ = some (.int .i64 u) := hx3.has (by first | exact c2_0 | (simp [go_sem, World.cell?_alloc_past, c0_0, c1_0, c2_0, ne_c0_c1, ne_c0_c2, ne_c1_c0, ne_c1_c2, ne_c2_c0, ne_c2_c1, rc0, rc0a, rc0b, rc0c, rc0n, rc1, rc1a, rc1b, rc1c, rc1n, rc2, rc2a, rc2b, rc2c, rc2n]; done))
          have z3 := hx3.size
          try simp at z3
          replace rc0 : w.heap.size < w3.heap.size := by omega
          replace rc0a : w.heap.size < w3.heap.size + 1 := by omega
          replace rc0b : w.heap.size < w3.heap.size + 1 + 1 := by omega
          replace rc0c : w.heap.size < w3.heap.size + 1 + 1 + 1 := by omega
          replace rc0n : ¬ w.heap.size = w3.heap.size := by omega
          replace rc1 : w.heap.size + 1 < w3.heap.size := by omega
          replace rc1a : w.heap.size + 1 < w3.heap.size + 1 := by omega
          replace rc1b : w.heap.size + 1 < w3.heap.size + 1 + 1 := by omega
          replace rc1c : w.heap.size + 1 < w3.heap.size + 1 + 1 + 1 := by omega
          replace rc1n : ¬ w.heap.size + 1 = w3.heap.size := by omega
          replace rc2 : w.heap.size + 1 + 1 < w3.heap.size := by omega
          replace rc2a : w.heap.size + 1 + 1 < w3.heap.size + 1 := by omega
          replace rc2b : w.heap.size + 1 + 1 < w3.heap.size + 1 + 1 := by omega
          replace rc2c : w.heap.size + 1 + 1 < w3.heap.size + 1 + 1 + 1 := by omega
          replace rc2n : ¬ w.heap.size + 1 + 1 = w3.heap.size := by omega
          replace HS := Lib.hid (HS.out.ext (Ext.trans (by repeat (first | with_reducible exact Ext.refl _ | with_reducible refine Ext.drew ?_ | with_reducible refine Ext.drewN ?_ _ | with_reducible refine Ext.alloc ?_ _ | with_reducible refine Ext.setCell ?_ (by first | omega | (simp; done) | (simp; omega)) _)) hx3))
          have X3 : Hid (Ext w w3) := Lib.hid (Ext.trans (by repeat (first | with_reducible exact X2.out | with_reducible refine Ext.drew ?_ | with_reducible refine Ext.drewN ?_ _ | with_reducible refine Ext.alloc ?_ _ | with_reducible refine Ext.setCell ?_ (by first | omega | (simp; done) | (simp; omega)) _)) hx3)
          have HO := Lib.hid (OwnEnt.lower hO5 (show w.heap.size ≤ _ from by first | exact hlw | (simp; omega)))
          clear X2 hx3 z3
          clear hA5 hO5
          have hcap5 := (OwnEnt.sl HO.out).2.1
          have hmc5 : (m : Int) ≤ c5 := by omega
          have E := Lib.hid (show RetRip R1 R2 0 w (.returned (.tuple #[.slice A5 m m, .slice (if c5 = m then A5 else A5.map (·.add (m * 8))) (n - m) (c5 - m), .int .i64 0])) w3.drew from by rw [HE.out.1, HE.out.2, HM0.out.1, HM0.out.2]; exact RetRip.mk (base := 0) (OwnEnt.ext (HO.out.ext (by repeat (first | with_reducible exact Ext.refl _ | with_reducible refine Ext.drew ?_ | with_reducible refine Ext.drewN ?_ _ | with_reducible refine Ext.alloc ?_ _ | with_reducible refine Ext.setCell ?_ (by first | omega | (simp; done) | (simp; omega)) _))) (Ext.drew (Ext.refl _))) (by omega) HLL.out (by omega) (Ext.drew (by repeat (first | with_reducible exact X3.out | with_reducible refine Ext.drew ?_ | with_reducible refine Ext.drewN ?_ _ | with_reducible refine Ext.alloc ?_ _ | with_reducible refine Ext.setCell ?_ (by first | omega | (simp; done) | (simp; omega)) _))))
          go_wp2_with fail
          refine wp_region_held_drew (S := fun _ => True) (by kernel_rfl) trivial (fun hHeld => ?_)
          (refine' take_in 0 rfl (by kernel_rfl) (by kernel_rfl) (by kernel_rfl) (fun _ _ _ h => h) (by rfl) (by assumption) ?_ ?_; rotate_left; focus (intro w hSw; (try dsimp only at hSw); go_simp; try with_reducible rfl)); try simp only [Act.put, List.setIfInBounds_toArray, List.set_cons_zero, List.set_cons_succ]
          (refine' take_in 1 rfl (by kernel_rfl) (by kernel_rfl) (by kernel_rfl) (fun _ _ _ h => h) (by rfl) (by assumption) ?_ ?_; rotate_left; focus (intro w hSw; (try dsimp only at hSw); go_simp; try with_reducible rfl)); try simp only [Act.put, List.setIfInBounds_toArray, List.set_cons_zero, List.set_cons_succ]
          (refine' take_in 2 rfl (by kernel_rfl) (by kernel_rfl) (by kernel_rfl) (fun _ _ _ h => h) (by rfl) (by assumption) ?_ ?_; rotate_left; focus (intro w hSw; (try dsimp only at hSw); go_simp; try with_reducible rfl)); try simp only [Act.put, List.setIfInBounds_toArray, List.set_cons_zero, List.set_cons_succ]
          (refine' take_in 3 rfl (by kernel_rfl) (by kernel_rfl) (by kernel_rfl) (fun _ _ _ h => h) (by rfl) (by assumption) ?_ ?_; rotate_left; focus (intro w hSw; (try dsimp only at hSw); go_simp; try with_reducible rfl)); try simp only [Act.put, List.setIfInBounds_toArray, List.set_cons_zero, List.set_cons_succ]
          (refine' take_in 4 rfl (by kernel_rfl) (by kernel_rfl) (by kernel_rfl) (fun _ _ _ h => h) (by rfl) (by assumption) ?_ ?_; rotate_left; focus (intro w hSw; (try dsimp only at hSw); go_simp; try with_reducible rfl)); try simp only [Act.put, List.setIfInBounds_toArray, List.set_cons_zero, List.set_cons_succ]
          (refine' take_in 5 rfl (by kernel_rfl) (by kernel_rfl) (by kernel_rfl) (fun _ _ _ h => h) (by rfl) (by assumption) ?_ ?_; rotate_left; focus (intro w hSw; (try dsimp only at hSw); go_simp; try with_reducible rfl)); try simp only [Act.put, List.setIfInBounds_toArray, List.set_cons_zero, List.set_cons_succ]
          (refine' take_in 6 rfl (by kernel_rfl) (by kernel_rfl) (by kernel_rfl) (fun _ _ _ h => h) (by rfl) (by assumption) ?_ ?_; rotate_left; focus (intro w hSw; (try dsimp only at hSw); go_simp; try with_reducible rfl)); try simp only [Act.put, List.setIfInBounds_toArray, List.set_cons_zero, List.set_cons_succ]
          (refine' take_in 7 rfl (by kernel_rfl) (by kernel_rfl) (by kernel_rfl) (fun _ _ _ h => h) (by rfl) (by assumption) ?_ ?_; rotate_left; focus (intro w hSw; (try dsimp only at hSw); go_simp; try with_reducible rfl)); try simp only [Act.put, List.setIfInBounds_toArray, List.set_cons_zero, List.set_cons_succ]
          (refine' take_in 8 rfl (by kernel_rfl) (by kernel_rfl) (by kernel_rfl) (fun _ _ _ h => h) (by rfl) (by assumption) ?_ ?_; rotate_left; focus (intro w hSw; (try dsimp only at hSw); go_simp; try with_reducible rfl)); try simp only [Act.put, List.setIfInBounds_toArray, List.set_cons_zero, List.set_cons_succ]
          (refine' take_in 9 rfl (by kernel_rfl) (by kernel_rfl) (by kernel_rfl) (fun _ _ _ h => h) (by rfl) (by assumption) ?_ ?_; rotate_left; focus (intro w hSw; (try dsimp only at hSw); go_simp; try with_reducible rfl)); try simp only [Act.put, List.setIfInBounds_toArray, List.set_cons_zero, List.set_cons_succ]
          refine wpAnyH_done (by kernel_rfl) ?_ _
          go_wp2_with fail
          · have E2 := E.out
            rw [if_pos h, h, Nat.sub_self] at E2
            refine bodyPost_ret (v := .tuple #[.slice A5 m m, .slice A5 (n - m) 0, .int .i64 0]) (by simp [results, Try.results28]; try rfl) rfl ?_
            exact E2
          · have E2 := E.out
            rw [if_neg h] at E2
            refine bodyPost_ret (v := .tuple #[.slice A5 m m, .slice (A5.map (·.add (m * 8))) (n - m) (c5 - m), .int .i64 0]) (by simp [results, Try.results28]; try rfl) rfl ?_
            exact E2
set_option maxRecDepth 100000 in
set_option maxHeartbeats 4000000 in
theorem rripe14_at (A : Option Addr) (n c : Nat) (l : List (Int × Int × Int × Int × Int × Int × Int × Int)) (h u e1 e2 er : Int) (hb : Bool) (m : Nat) (w : World) (hs : Sl w 8 A n c (l.flatMap entC)) (hn : n ≤ 100000) (hf : ∀ x ∈ l, FitsQ x) (hnil : A = none → c = 0) (he : chkQ l = (e1, e2)) (hhb : hb = (decide (1 ≤ h) && decide (h ≤ 4294967296))) (hv : er = ripG e1 u hb) (R1 R2 : List (Int × Int × Int × Int × Int × Int × Int × Int)) (hR : (R1, R2) = if er = 0 then (l.filter (isRip h u), l.filter (fun x => !isRip h u x)) else ([], [])) :
    Calls Try.prog 29 #[.slice A n c, .int .i64 h, .int .i64 u] w (RetRip2 R1 R2 er w) := by
  obtain ⟨i0, hi0, hz0, hz1, hz2⟩ := ent_infoP
  have hll := hs.rlen entC_len (by decide)
  have hns := hs.small
  have hcap := hs.2.1
  have HLL := Lib.hid hll
  have HS := Lib.hid hs
  have HS0 := Lib.hid hs
  have HF := Lib.hid hf
  have HV := Lib.hid hv
  have HR := Lib.hid hR
  have HN := Lib.hid hnil
  have HE1 := Lib.hid he
  have CC := Lib.hid (fun w' (hx : Ext w w') => rcheck14_any A n c l e1 e2 w' (hs.ext hx) hf he)
  have CH := Lib.hid (fun w' => r14height_any h hb hhb w')
  clear hs hf he hhb hv hR hnil hll
  go_enter Try.func29, Try.ntmps29
  go_wp2_with fail
  (with_reducible refine (CC.out _ (by repeat (first | with_reducible exact Ext.refl w | with_reducible refine Ext.drew ?_ | with_reducible refine Ext.drewN ?_ _ | with_reducible refine Ext.alloc ?_ _ | with_reducible refine Ext.setCell ?_ (by first | omega | (simp; done) | (simp; omega)) _))).mono ?_)
  rintro e w1 ⟨rfl, hx1⟩
  have z1 := hx1.size
  try simp at z1
  replace HS := Lib.hid (HS.out.ext (Ext.trans (by repeat (first | with_reducible exact Ext.refl _ | with_reducible refine Ext.drew ?_ | with_reducible refine Ext.drewN ?_ _ | with_reducible refine Ext.alloc ?_ _ | with_reducible refine Ext.setCell ?_ (by first | omega | (simp; done) | (simp; omega)) _)) hx1))
  have X1 : Hid (Ext w w1) := Lib.hid (Ext.trans (by repeat (first | with_reducible exact Ext.refl w | with_reducible refine Ext.drew ?_ | with_reducible refine Ext.drewN ?_ _ | with_reducible refine Ext.alloc ?_ _ | with_reducible refine Ext.setCell ?_ (by first | omega | (simp; done) | (simp; omega)) _)) hx1)
  clear hx1 z1
  by_cases q1 : ¬ e1 = 0
  · have q1b : (e1 != 0) = true := by simp [q1]
    go_wp2_with fail
    have hv9 : er = e1 := (by rw [HV.out]; unfold ripG; (repeat' split) <;> first | omega | simp_all)
    obtain ⟨rfl, rfl⟩ : R1 = [] ∧ R2 = [] := by have h := HR.out; rw [if_neg (by omega)] at h; simpa using h
    rw [hv9]
    refine bodyPost_ret (v := .tuple #[.slice none 0 0, .slice none 0 0, .int .i64 e1]) (by simp [results, Try.results29, go_sem, World.cell?_alloc_past]; try rfl) rfl (RetRip2.nil ?_)
    exact (by repeat (first | with_reducible exact X1.out | with_reducible refine Ext.drew ?_ | with_reducible refine Ext.drewN ?_ _ | with_reducible refine Ext.alloc ?_ _ | with_reducible refine Ext.setCell ?_ (by first | omega | (simp; done) | (simp; omega)) _))
  · have q1b : (e1 != 0) = false := by simpa using q1
    cases hb
    · go_wp2_with fail
      (with_reducible refine (CH.out _).mono ?_)
      rintro e w_1 ⟨rfl, rfl⟩
      go_wp2_with fail
      have hv9 : er = 3 := (by rw [HV.out]; unfold ripG; (repeat' split) <;> first | omega | simp_all)
      obtain ⟨rfl, rfl⟩ : R1 = [] ∧ R2 = [] := by have h := HR.out; rw [if_neg (by omega)] at h; simpa using h
      rw [hv9]
      refine bodyPost_ret (v := .tuple #[.slice none 0 0, .slice none 0 0, .int .i64 3]) (by simp [results, Try.results29, go_sem, World.cell?_alloc_past]; try rfl) rfl (RetRip2.nil ?_)
      exact (by repeat (first | with_reducible exact X1.out | with_reducible refine Ext.drew ?_ | with_reducible refine Ext.drewN ?_ _ | with_reducible refine Ext.alloc ?_ _ | with_reducible refine Ext.setCell ?_ (by first | omega | (simp; done) | (simp; omega)) _))
    · by_cases q2 : u < 1
      · have d2 : decide (u < 1) = true := decide_eq_true q2
        have Q2 := Lib.hid q2
        clear q2
        go_wp2_with fail
        (with_reducible refine (CH.out _).mono ?_)
        rintro e w_1 ⟨rfl, rfl⟩
        go_wp2_with fail
        have q2 := Q2.out
        have hv9 : er = 3 := (by rw [HV.out]; unfold ripG; (repeat' split) <;> first | omega | simp_all)
        obtain ⟨rfl, rfl⟩ : R1 = [] ∧ R2 = [] := by have h := HR.out; rw [if_neg (by omega)] at h; simpa using h
        rw [hv9]
        refine bodyPost_ret (v := .tuple #[.slice none 0 0, .slice none 0 0, .int .i64 3]) (by simp [results, Try.results29, go_sem, World.cell?_alloc_past]; try rfl) rfl (RetRip2.nil ?_)
        exact (by repeat (first | with_reducible exact X1.out | with_reducible refine Ext.drew ?_ | with_reducible refine Ext.drewN ?_ _ | with_reducible refine Ext.alloc ?_ _ | with_reducible refine Ext.setCell ?_ (by first | omega | (simp; done) | (simp; omega)) _))
      · have d2 : decide (u < 1) = false := decide_eq_false q2
        have Q2 := Lib.hid q2
        clear q2
        go_wp2_with fail
        (with_reducible refine (CH.out _).mono ?_)
        rintro e w_1 ⟨rfl, rfl⟩
        by_cases q3 : 1048576 < u
        · have d3 : decide (1048576 < u) = true := decide_eq_true q3
          have Q3 := Lib.hid q3
          clear q3
          go_wp2_with fail
          have q2 := Q2.out
          have q3 := Q3.out
          have hv9 : er = 3 := (by rw [HV.out]; unfold ripG; (repeat' split) <;> first | omega | simp_all)
          obtain ⟨rfl, rfl⟩ : R1 = [] ∧ R2 = [] := by have h := HR.out; rw [if_neg (by omega)] at h; simpa using h
          rw [hv9]
          refine bodyPost_ret (v := .tuple #[.slice none 0 0, .slice none 0 0, .int .i64 3]) (by simp [results, Try.results29, go_sem, World.cell?_alloc_past]; try rfl) rfl (RetRip2.nil ?_)
          exact (by repeat (first | with_reducible exact X1.out | with_reducible refine Ext.drew ?_ | with_reducible refine Ext.drewN ?_ _ | with_reducible refine Ext.alloc ?_ _ | with_reducible refine Ext.setCell ?_ (by first | omega | (simp; done) | (simp; omega)) _))
        · have d3 : decide (1048576 < u) = false := decide_eq_false q3
          have Q3 := Lib.hid q3
          clear q3
          have q2 := Q2.out
          have q3 := Q3.out
          obtain rfl : er = 0 := (by rw [HV.out]; unfold ripG; (repeat' split) <;> first | omega | simp_all)
          obtain ⟨h1, h2⟩ : R1 = l.filter (isRip h u) ∧ R2 = l.filter (fun x => !isRip h u x) := by have h := HR.out; rw [if_pos rfl] at h; simpa using h
          go_wp2_with fail
          have HX2 : Hid (Ext w _) := Lib.hid (by repeat (first | with_reducible exact X1.out | with_reducible refine Ext.drew ?_ | with_reducible refine Ext.drewN ?_ _ | with_reducible refine Ext.alloc ?_ _ | with_reducible refine Ext.setCell ?_ (by first | omega | (simp; done) | (simp; omega)) _))
          have he0 : (chkQ l).1 = 0 := by rw [HE1.out]; omega
          have HMY := Lib.hid (chkQ_may he0)
          have HE := Lib.hid (And.intro h1 h2)
          have HU := Lib.hid (And.intro q2 q3)
          clear HS HR HV CC CH d2 d3 q1 q1b h1 h2 he0 q2 q3 Q2 Q3
          go_loopg [6, 7, 11] n (fun gh q1 q2 i wx => gh ≤ n ∧ i = .int .i64 ((n - gh : Nat) : Int) ∧ Hid (OwnEnt wx w.heap.size q1 ((l.take (n - gh)).filter (isRip h u)).length ((l.take (n - gh)).filter (isRip h u))) ∧ Hid (OwnEnt wx w.heap.size q2 ((l.take (n - gh)).filter (fun x => !isRip h u x)).length ((l.take (n - gh)).filter (fun x => !isRip h u x))) ∧ Hid (Apart q1 q2) ∧ Hid (Ext w wx))
          case atStart => exact ⟨Nat.le_refl _, by simp, Lib.hid (by rw [Nat.sub_self]; exact OwnEnt.nil _ _), Lib.hid (by rw [Nat.sub_self]; exact OwnEnt.nil _ _), Lib.hid (Apart.nil _), HX2⟩
          case round =>
            obtain ⟨hg, hi, ho1, ho2, hap, XR⟩ := hrel
            obtain ⟨k, hk⟩ : ∃ k, k = n - gk := ⟨_, rfl⟩
            rw [← hk] at hi ho1 ho2
            subst hi
            by_cases hz : gk = 0
            · have hkn : ¬ (k : Int) < n := by omega
              have hkl : l.take k = l := List.take_of_length_le (by have := HLL.out; omega)
              rw [hkl, ← HE.out.1] at ho1
              rw [hkl, ← HE.out.2] at ho2
              clear hk hg hz hkl
              have E := Lib.hid (RetRip2.mk ho1.out ho2.out XR.out)
              obtain ⟨A1, c1, rfl, hA1, _⟩ := own_parts2 ho1.out
              obtain ⟨A2, c2, rfl, hA2, _⟩ := own_parts2 ho2.out
              clear ho1 ho2 hap
              go_wp2_with fail
              refine bodyPost_ret (v := .tuple #[.slice A1 R1.length c1, .slice A2 R2.length c2, .int .i64 0]) (by simp [results, Try.results29]; try rfl) rfl ?_
              exact E.out
            · have hkn : (k : Int) < n := by omega
              have hk1 : k < l.length := by have := HLL.out; omega
              have hrm := Ext.size XR.out
              obtain ⟨b1, o1, rfl, hb1, hc1⟩ := HS0.out.rec_ entC_len (show 0 < n from by omega)
              obtain ⟨xv_, hxx⟩ : ∃ x, x = l[k] := ⟨_, rfl⟩
              have hlk : l[k]? = some xv_ := by rw [hxx]; exact List.getElem?_eq_getElem hk1
              have htk := entC_take hlk
              have hlen1 : ((l.take k).filter (isRip h u)).length < 1099511627776 := by have := List.length_filter_le (isRip h u) (l.take k); rw [List.length_take] at this; omega
              have hlen2 : ((l.take k).filter (fun x => !isRip h u x)).length < 1099511627776 := by have := List.length_filter_le (fun x => !isRip h u x) (l.take k); rw [List.length_take] at this; omega
              have x_0 := XR.out.has (hc1 k xv_ hlk 0 _ rfl)
              have x_1 := XR.out.has (hc1 k xv_ hlk 1 _ rfl)
              have x_2 := XR.out.has (hc1 k xv_ hlk 2 _ rfl)
              have x_3 := XR.out.has (hc1 k xv_ hlk 3 _ rfl)
              have x_4 := XR.out.has (hc1 k xv_ hlk 4 _ rfl)
              have x_5 := XR.out.has (hc1 k xv_ hlk 5 _ rfl)
              have x_6 := XR.out.has (hc1 k xv_ hlk 6 _ rfl)
              have x_7 := XR.out.has (hc1 k xv_ hlk 7 _ rfl)
              obtain ⟨xo, xv, xs, xp, xf, xc, xi, xb⟩ := xv_
              obtain ⟨b9, hb9⟩ := HMY.out _ (List.mem_of_getElem? hlk)
              obtain ⟨_, _, _, k1, k2, _⟩ := oneQ_cases hb9
              change 1 ≤ xc at k1
              change xc ≤ 4294967296 at k2
              simp only at x_0 x_1 x_2 x_3 x_4 x_5 x_6 x_7
              rw [Nat.add_zero] at x_0
              rw [← Nat.add_assoc] at x_1 x_2 x_3 x_4 x_5 x_6 x_7
              obtain ⟨y, hy⟩ : ∃ y, y = xc + u := ⟨_, rfl⟩
              have hwr : IntKind.i64.wrap (xc + u) = y := by rw [hy]; exact IntWalk.i64_in _ (by have := HU.out; omega)
              have hwr2 : Go.RowKit.wrap64 (xc + u) = y := by rw [← IntWalk.i64_left]; exact hwr
              have hrp : isRip h u (xo, xv, xs, xp, xf, xc, xi, xb) = decide (y ≤ h) := by rw [hy]; rfl
              have HK := Lib.hid (And.intro hk (And.intro hg hz))
              have HLN1 := Lib.hid hlen1
              have HLN2 := Lib.hid hlen2
              clear hk hg hz hc1 hxx hk1 hlk hlen1 hlen2 hy k1 k2 hb9
              by_cases hE : y ≤ h
              · have hT1 : (l.take (k + 1)).filter (isRip h u) = (l.take k).filter (isRip h u) ++ [(xo, xv, xs, xp, xf, xc, xi, xb)] := by rw [htk, List.filter_append, List.filter_cons, hrp, decide_eq_true hE]; rfl
                have hT2 : (l.take (k + 1)).filter (fun x => !isRip h u x) = (l.take k).filter (fun x => !isRip h u x) ++ [] := by rw [htk, List.filter_append, List.filter_cons, hrp, decide_eq_true hE]; rfl
                have HT := Lib.hid (And.intro hT1 hT2)
                have HAP := Lib.hid (show Apart u6 u7 from hap.out)
                have hsz := Ext.size XR.out
                clear hT1 hT2 hrp hap htk
                go_wp2_with (at_builtin; refine wpList_append_two wr rfl _ _ 22 rfl w.heap.size 27 i0 (.agg #[.int .i64 0, .int .i64 0, .int .i64 0, .int .i64 0, .int .i64 0, .int .i64 0, .int .u64 0, .int .u64 0]) 8 64 Try.underlying22 hi0 hz0 hz1 hz2 rfl (by decide) u6 _ _ (by rfl) ho1.out u7 _ _ _ _ ho2.out HAP.out #[.int .i64 xo, .int .i64 xv, .int .i64 xs, .int .i64 xp, .int .i64 xf, .int .i64 xc, .int .u64 xi, .int .u64 xb] 1 (by first | rfl | (simp [Act.eval]; done) | (simp [Act.eval, go_sem]; done)) rfl (by intro u hu; simp at hu; rcases hu with rfl | rfl | rfl | rfl | rfl | rfl | rfl | rfl <;> rfl) HLN1.out (by decide) (by first | omega | (simp; omega)) ?_; intro v1 w1 hown1 hown2 hap1 hb1)
                go_roundg (gk - 1)
                case measure => have := HK.out; omega
                case rel =>
                  refine ⟨by have := HK.out; omega, num_eq (by have := HK.out; omega), ?_, ?_, Lib.hid (hap1), Lib.hid (Below.trans XR.out hb1)⟩
                  · rw [show n - (gk - 1) = k + 1 from by have := HK.out; omega, HT.out.1]
                    refine Lib.hid ?_
                    unfold OwnEnt
                    rw [List.flatMap_append, List.length_append]
                    first | exact hown1 | (simpa using hown2)
                  · rw [show n - (gk - 1) = k + 1 from by have := HK.out; omega, HT.out.2]
                    refine Lib.hid ?_
                    unfold OwnEnt
                    rw [List.flatMap_append, List.length_append]
                    first | exact hown1 | (simpa using hown2)
              · have hT1 : (l.take (k + 1)).filter (isRip h u) = (l.take k).filter (isRip h u) ++ [] := by rw [htk, List.filter_append, List.filter_cons, hrp, decide_eq_false hE]; rfl
                have hT2 : (l.take (k + 1)).filter (fun x => !isRip h u x) = (l.take k).filter (fun x => !isRip h u x) ++ [(xo, xv, xs, xp, xf, xc, xi, xb)] := by rw [htk, List.filter_append, List.filter_cons, hrp, decide_eq_false hE]; rfl
                have HT := Lib.hid (And.intro hT1 hT2)
                have HAP := Lib.hid (show Apart u7 u6 from hap.out.symm)
                have hsz := Ext.size XR.out
                clear hT1 hT2 hrp hap htk
                go_wp2_with (at_builtin; refine wpList_append_two wr rfl _ _ 22 rfl w.heap.size 27 i0 (.agg #[.int .i64 0, .int .i64 0, .int .i64 0, .int .i64 0, .int .i64 0, .int .i64 0, .int .u64 0, .int .u64 0]) 8 64 Try.underlying22 hi0 hz0 hz1 hz2 rfl (by decide) u7 _ _ (by rfl) ho2.out u6 _ _ _ _ ho1.out HAP.out #[.int .i64 xo, .int .i64 xv, .int .i64 xs, .int .i64 xp, .int .i64 xf, .int .i64 xc, .int .u64 xi, .int .u64 xb] 1 (by first | rfl | (simp [Act.eval]; done) | (simp [Act.eval, go_sem]; done)) rfl (by intro u hu; simp at hu; rcases hu with rfl | rfl | rfl | rfl | rfl | rfl | rfl | rfl <;> rfl) HLN2.out (by decide) (by first | omega | (simp; omega)) ?_; intro v1 w1 hown1 hown2 hap1 hb1)
                go_roundg (gk - 1)
                case measure => have := HK.out; omega
                case rel =>
                  refine ⟨by have := HK.out; omega, num_eq (by have := HK.out; omega), ?_, ?_, Lib.hid (hap1.symm), Lib.hid (Below.trans XR.out hb1)⟩
                  · rw [show n - (gk - 1) = k + 1 from by have := HK.out; omega, HT.out.1]
                    refine Lib.hid ?_
                    unfold OwnEnt
                    rw [List.flatMap_append, List.length_append]
                    first | exact hown1 | (simpa using hown2)
                  · rw [show n - (gk - 1) = k + 1 from by have := HK.out; omega, HT.out.2]
                    refine Lib.hid ?_
                    unfold OwnEnt
                    rw [List.flatMap_append, List.length_append]
                    first | exact hown1 | (simpa using hown2)
theorem qripe_ev (A : Option Addr) (n c : Nat) (l R1 R2 : List (Int × Int × Int × Int × Int × Int × Int × Int)) (h u er : Int) (w : World) (hs : Sl w 8 A n c (l.flatMap entC)) (hn : n ≤ 100000) (hf : ∀ x ∈ l, FitsQ x) (hnil : A = none → c = 0) (hv : (R1, R2, er) = ripQ l h u) :
    Calls Try.prog 28 #[.slice A n c, .int .i64 h, .int .i64 u] w (RetRip R1 R2 er w) := by
  have hl := hs.rlen entC_len (by decide)
  obtain ⟨m, hm⟩ : ∃ m, er = 0 → m ≤ n ∧ l.filter (isRip h u) = l.take m ∧ l.filter (fun x => !isRip h u x) = l.drop m ∧ ∀ (k : Nat) x, l[k]? = some x → isRip h u x = decide (k < m) := by
    by_cases h0 : er = 0
    · have hc : (chkQ l).1 = 0 := by
        unfold ripQ at hv
        by_cases h1 : ripQE l h u = 0
        · unfold ripQE ripG at h1
          by_cases h2 : (chkQ l).1 = 0
          · exact h2
          · rw [if_pos h2] at h1; exact absurd h1 h2
        · rw [if_neg h1] at hv
          have h3 : er = ripQE l h u := by injection hv with _ h4; injection h4
          omega
      obtain ⟨m, h1, h2, h3, h4⟩ := splitQ_mono (isRip h u) l ((chkQ_sorted hc).imp (fun {a b} hab hb => by unfold isRip at hb ⊢; rw [decide_eq_true_eq] at hb ⊢; omega))
      exact ⟨m, fun _ => ⟨by omega, h2, h3, h4⟩⟩
    · exact ⟨0, fun h => absurd h h0⟩
  have hv2 : er = ripQE l h u ∧ (R1, R2) = if er = 0 then (l.filter (isRip h u), l.filter (fun x => !isRip h u x)) else ([], []) := by
    unfold ripQ at hv
    by_cases h1 : ripQE l h u = 0
    · rw [if_pos h1] at hv
      injection hv with h2 h3
      injection h3 with h3 h4
      exact ⟨by omega, by rw [if_pos h4, h2, h3]⟩
    · rw [if_neg h1] at hv
      injection hv with h2 h3
      injection h3 with h3 h4
      exact ⟨h4, by rw [if_neg (by omega), h2, h3]⟩
  exact qripe_at A n c l h u (chkQ l).1 (chkQ l).2 er _ m w hs hn hf hnil rfl rfl hv2.1 R1 R2 hv2.2 hm
theorem rripe14_ev (A : Option Addr) (n c : Nat) (l R1 R2 : List (Int × Int × Int × Int × Int × Int × Int × Int)) (h u er : Int) (w : World) (hs : Sl w 8 A n c (l.flatMap entC)) (hn : n ≤ 100000) (hf : ∀ x ∈ l, FitsQ x) (hnil : A = none → c = 0) (hv : (R1, R2, er) = ripQ l h u) :
    Calls Try.prog 29 #[.slice A n c, .int .i64 h, .int .i64 u] w (RetRip2 R1 R2 er w) := by
  have hv2 : er = ripQE l h u ∧ (R1, R2) = if er = 0 then (l.filter (isRip h u), l.filter (fun x => !isRip h u x)) else ([], []) := by
    unfold ripQ at hv
    by_cases h1 : ripQE l h u = 0
    · rw [if_pos h1] at hv
      injection hv with h2 h3
      injection h3 with h3 h4
      exact ⟨by omega, by rw [if_pos h4, h2, h3]⟩
    · rw [if_neg h1] at hv
      injection hv with h2 h3
      injection h3 with h3 h4
      exact ⟨h4, by rw [if_neg (by omega), h2, h3]⟩
  exact rripe14_at A n c l h u (chkQ l).1 (chkQ l).2 er _ 0 w hs hn hf hnil rfl rfl hv2.1 R1 R2 hv2.2
end Go.Proofs.Ytnbeejgppooamaa
