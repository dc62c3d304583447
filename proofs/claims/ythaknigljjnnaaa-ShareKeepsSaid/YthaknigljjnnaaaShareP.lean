/- The inner functions of share: closures that answer an error, the first error of some. Conditions stand in each lemma. -/
import Derived.Test.YthaknigljjnnaaaFixRefF
import Derived.Test.YthaknigljjnnaaaHeld
set_option linter.unusedVariables false
set_option linter.unusedSimpArgs false
namespace Go.Proofs.Ythaknigljjnnaaa
open Go.RowKit

theorem sso_any (b : Bool) (e : Int) (w : World) :
    Calls Try.prog 83 #[.bool b, .int .i64 e] w fun r w' => r = .returned (.func (.func 113) #[] #[.pointer (some ⟨w.heap.size, 0, none⟩), .pointer (some ⟨w.heap.size + 1, 0, none⟩)]) ∧
      w' = (w.alloc (.cells #[.bool b] 4)).alloc (.cells #[.int .i64 e] 26) := by
  have hmf : ∀ (fn : Fn) (first cap : Array Value) (w : World), (Instr.makeFunc fn first cap).run Try.prog w = .ok (.func fn first cap) w := fun _ _ _ _ => rfl
  go_enter Try.func83, Try.ntmps83
  go_wp2
  go_ret
  exact ⟨rfl, rfl⟩
theorem sso1_any (a b : Addr) (is : Bool) (e : Int) (w : World) (h1 : w.cell? a = some (.bool is)) (h2 : w.cell? b = some (.int .i64 e)) :
    Calls Try.prog 113 #[.pointer (some a), .pointer (some b)] w fun r w' => r = .returned (.int .i64 (if is = true then e else 0)) ∧ w = w' := by
  cases is
  · go_enter Try.func113, Try.ntmps113
    go_wp2
    go_ret
    exact ⟨rfl, rfl⟩
  · go_enter Try.func113, Try.ntmps113
    go_wp2
    go_ret
    exact ⟨rfl, rfl⟩
/-- the first error of some answers -/
def firstE : List Int → Int
  | [] => 0
  | r :: l => if r = 0 then firstE l else r
theorem firstE_drop {l : List Int} {k : Nat} (hk : k < l.length) : firstE (l.drop k) = if l.getD k 0 = 0 then firstE (l.drop (k + 1)) else l.getD k 0 := by
  rw [List.drop_eq_getElem_cons hk, List.getD_eq_getElem?_getD, List.getElem?_eq_getElem hk]
  rfl
/-- the value is a closure of 'so' that answers r -/
def AskS (w : World) (v : Value) (r : Int) : Prop :=
  ∃ (a b : Nat) (is : Bool) (e : Int), v = .func (.func 113) #[] #[.pointer (some ⟨a, 0, none⟩), .pointer (some ⟨b, 0, none⟩)] ∧ a < w.heap.size ∧ b < w.heap.size ∧ w.cell? ⟨a, 0, none⟩ = some (.bool is) ∧ w.cell? ⟨b, 0, none⟩ = some (.int .i64 e) ∧ r = if is = true then e else 0
theorem AskS.ext {w w' : World} {v : Value} {r : Int} (h : AskS w v r) (hx : Ext w w') : AskS w' v r := by
  obtain ⟨a, b, is, e, h1, h2, h3, h4, h5, h6⟩ := h
  have hs := hx.size
  exact ⟨a, b, is, e, h1, by omega, by omega, (hx.cells.1 a 0 h2).trans h4, (hx.cells.1 b 0 h3).trans h5, h6⟩
theorem AskS.new (w : World) (is : Bool) (e : Int) :
    AskS ((w.alloc (.cells #[.bool is] 4)).alloc (.cells #[.int .i64 e] 26)) (.func (.func 113) #[] #[.pointer (some ⟨w.heap.size, 0, none⟩), .pointer (some ⟨w.heap.size + 1, 0, none⟩)]) (if is = true then e else 0) :=
  ⟨_, _, is, e, rfl, by simp; omega, by simp, by simp [go_sem], by simp [go_sem], rfl⟩

set_option maxHeartbeats 400000 in
theorem sfirst_any (A : Option Addr) (n c : Nat) (vs : List Value) (rs : List Int) (w : World) (h : Sl w 1 A n c vs) (hl : rs.length = n) (ha : ∀ i v, vs[i]? = some v → AskS w v (rs.getD i 0)) :
    Calls Try.prog 81 #[.slice A n c] w fun r w' => r = .returned (.int .i64 (firstE rs)) ∧ w = w' := by
  have hs := h.small
  have hvl := h.len
  obtain ⟨V, hV⟩ : ∃ V, V = firstE rs := ⟨_, rfl⟩
  rw [← hV]
  have HV := Lib.hid hV
  have HL := Lib.hid (And.intro hl hvl)
  have HA := Lib.hid ha
  have HH := Lib.hid h
  clear hV hl ha h hvl
  go_enter Try.func81, Try.ntmps81
  go_wp2
  go_loopg [8] n (fun g i wx => g ≤ n ∧ Hid (V = firstE (rs.drop (n - g))) ∧ i = .int .i64 ((n - g : Nat) : Int) ∧ wx = w)
  case atStart => exact ⟨Nat.le_refl _, by show V = firstE (rs.drop (n - n)); rw [Nat.sub_self]; exact HV.out, by simp, rfl⟩
  case round =>
    obtain ⟨hg, H, hi, rfl⟩ := hrel
    obtain ⟨k, hk⟩ : ∃ k, k = n - gk := ⟨_, rfl⟩
    rw [← hk] at H hi
    subst hi
    by_cases hz : gk = 0
    · have hkn : ¬ (k : Int) < n := by omega
      have e : V = 0 := by
        rw [H.out, List.drop_eq_nil_of_le (by have := HL.out; omega)]; rfl
      subst e
      clear H hz hg hk
      go_wp2
      go_ret
      exact ⟨rfl, rfl⟩
    · have hkn : (k : Int) < n := by omega
      obtain ⟨b, o, rfl, hb, hc⟩ := HH.out.at_ (show 0 < n from by omega)
      have hkl : k < vs.length := by have := HL.out; omega
      have hc1 := hc k _ (List.getElem?_eq_getElem hkl)
      obtain ⟨p, q, is, e, h1, h2, h3, h4, h5, h6⟩ := HA.out k _ (List.getElem?_eq_getElem hkl)
      rw [h1] at hc1
      have hd := H.out
      rw [firstE_drop (by have := HL.out; omega)] at hd
      have C := Lib.hid (sso1_any ⟨p, 0, none⟩ ⟨q, 0, none⟩ is e wr h4 h5)
      rw [← h6] at C
      obtain ⟨r, hr⟩ : ∃ r, r = rs.getD k 0 := ⟨_, rfl⟩
      rw [← hr] at hd C
      have HK := Lib.hid (And.intro hk (And.intro hg hz))
      by_cases hr0 : r = 0
      · rw [if_pos hr0] at hd
        have HD := Lib.hid hd
        subst hr0
        clear hd hr h1 h2 h3 h4 h5 h6 hc hb hkl hk hg hz H
        go_wp2_with fail
        refine C.out.mono ?_
        rintro e w1 ⟨rfl, rfl⟩
        go_wp2_with fail
        go_roundg (gk - 1)
        case measure => have := HK.out; omega
        case rel => exact ⟨by have := HK.out; omega, by rw [show n - (gk - 1) = k + 1 from by have := HK.out; omega]; exact HD, num_eq (by have := HK.out; omega), rfl⟩
      · rw [if_neg hr0] at hd
        obtain rfl : V = r := hd
        have hr1 : (V == 0) = false := by simpa using hr0
        clear hr h1 h2 h3 h4 h5 h6 hc hb hkl hk hg hz H hr0
        go_wp2_with fail
        refine C.out.mono ?_
        rintro e w1 ⟨rfl, rfl⟩
        go_wp2_with fail
        go_ret
        exact ⟨rfl, rfl⟩
theorem ask3 {w : World} {v1 v2 v3 : Value} {r1 r2 r3 : Int} (h1 : AskS w v1 r1) (h2 : AskS w v2 r2) (h3 : AskS w v3 r3) : ∀ i v, [v1, v2, v3][i]? = some v → AskS w v ([r1, r2, r3].getD i 0) := by
  intro i v h
  match i with
  | 0 => simp at h; subst h; exact h1
  | 1 => simp at h; subst h; exact h2
  | 2 => simp at h; subst h; exact h3
  | i + 3 => simp at h
theorem cell_lt {w : World} {b o : Nat} {v : Value} (h : w.cell? ⟨b, o, none⟩ = some v) : b < w.heap.size := by
  by_cases hb : b < w.heap.size
  · exact hb
  · simp [World.cell?, Array.getElem?_eq_none (show w.heap.size ≤ b from by omega)] at h
abbrev clo (p q : Nat) : Value := .func (.func 113) #[] #[.pointer (some ⟨p, 0, none⟩), .pointer (some ⟨q, 0, none⟩)]
theorem sfirst_three {w : World} (b p1 q1 p2 q2 p3 q3 : Nat) (i1 i2 i3 : Bool) (e1 e2 e3 : Int)
    (c1 : w.cell? ⟨b, 0, none⟩ = some (clo p1 q1)) (c2 : w.cell? ⟨b, 1, none⟩ = some (clo p2 q2)) (c3 : w.cell? ⟨b, 2, none⟩ = some (clo p3 q3))
    (h1 : w.cell? ⟨p1, 0, none⟩ = some (.bool i1)) (g1 : w.cell? ⟨q1, 0, none⟩ = some (.int .i64 e1)) (h2 : w.cell? ⟨p2, 0, none⟩ = some (.bool i2)) (g2 : w.cell? ⟨q2, 0, none⟩ = some (.int .i64 e2)) (h3 : w.cell? ⟨p3, 0, none⟩ = some (.bool i3)) (g3 : w.cell? ⟨q3, 0, none⟩ = some (.int .i64 e3)) {V : Int} (hV : V = firstE [if i1 = true then e1 else 0, if i2 = true then e2 else 0, if i3 = true then e3 else 0]) :
    Calls Try.prog 81 #[.slice (some ⟨b, 0, none⟩) 3 3] w fun r w' => r = .returned (.int .i64 V) ∧ w = w' :=
  hV ▸ sfirst_any (some ⟨b, 0, none⟩) 3 3 [clo p1 q1, clo p2 q2, clo p3 q3] [if i1 = true then e1 else 0, if i2 = true then e2 else 0, if i3 = true then e3 else 0] w
    ⟨rfl, by omega, by simp [maxLen], fun _ => ⟨b, 0, rfl, cell_lt c1, fun j u hu => by
      match j with
      | 0 => simp at hu; subst hu; exact c1
      | 1 => simp at hu; subst hu; exact c2
      | 2 => simp at hu; subst hu; exact c3
      | j + 3 => simp at hu⟩⟩ rfl
    (ask3 ⟨_, _, _, _, rfl, cell_lt h1, cell_lt g1, h1, g1, rfl⟩ ⟨_, _, _, _, rfl, cell_lt h2, cell_lt g2, h2, g2, rfl⟩ ⟨_, _, _, _, rfl, cell_lt h3, cell_lt g3, h3, g3, rfl⟩)
theorem sfirst_two {w : World} (b p1 q1 p2 q2 : Nat) (i1 i2 : Bool) (e1 e2 : Int)
    (c1 : w.cell? ⟨b, 0, none⟩ = some (clo p1 q1)) (c2 : w.cell? ⟨b, 1, none⟩ = some (clo p2 q2))
    (h1 : w.cell? ⟨p1, 0, none⟩ = some (.bool i1)) (g1 : w.cell? ⟨q1, 0, none⟩ = some (.int .i64 e1)) (h2 : w.cell? ⟨p2, 0, none⟩ = some (.bool i2)) (g2 : w.cell? ⟨q2, 0, none⟩ = some (.int .i64 e2)) {V : Int} (hV : V = firstE [if i1 = true then e1 else 0, if i2 = true then e2 else 0]) :
    Calls Try.prog 81 #[.slice (some ⟨b, 0, none⟩) 2 2] w fun r w' => r = .returned (.int .i64 V) ∧ w = w' :=
  hV ▸ sfirst_any (some ⟨b, 0, none⟩) 2 2 [clo p1 q1, clo p2 q2] [if i1 = true then e1 else 0, if i2 = true then e2 else 0] w
    ⟨rfl, by omega, by simp [maxLen], fun _ => ⟨b, 0, rfl, cell_lt c1, fun j u hu => by
      match j with
      | 0 => simp at hu; subst hu; exact c1
      | 1 => simp at hu; subst hu; exact c2
      | j + 2 => simp at hu⟩⟩ rfl
    (by
      intro i v h
      match i with
      | 0 => simp at h; subst h; exact ⟨_, _, _, _, rfl, cell_lt h1, cell_lt g1, h1, g1, rfl⟩
      | 1 => simp at h; subst h; exact ⟨_, _, _, _, rfl, cell_lt h2, cell_lt g2, h2, g2, rfl⟩
      | i + 2 => simp at h)
theorem sfirst_one {w : World} (b p1 q1 : Nat) (i1 : Bool) (e1 : Int)
    (c1 : w.cell? ⟨b, 0, none⟩ = some (clo p1 q1))
    (h1 : w.cell? ⟨p1, 0, none⟩ = some (.bool i1)) (g1 : w.cell? ⟨q1, 0, none⟩ = some (.int .i64 e1)) {V : Int} (hV : V = firstE [if i1 = true then e1 else 0]) :
    Calls Try.prog 81 #[.slice (some ⟨b, 0, none⟩) 1 1] w fun r w' => r = .returned (.int .i64 V) ∧ w = w' :=
  hV ▸ sfirst_any (some ⟨b, 0, none⟩) 1 1 [clo p1 q1] [if i1 = true then e1 else 0] w
    ⟨rfl, by omega, by simp [maxLen], fun _ => ⟨b, 0, rfl, cell_lt c1, fun j u hu => by
      match j with
      | 0 => simp at hu; subst hu; exact c1
      | j + 1 => simp at hu⟩⟩ rfl
    (by
      intro i v h
      match i with
      | 0 => simp at h; subst h; exact ⟨_, _, _, _, rfl, cell_lt h1, cell_lt g1, h1, g1, rfl⟩
      | i + 1 => simp at h)
/-- why a pool may not be -/
def chkE (t s : Int) : Int := if s < t then 9 else if 4611686018427387904 < t then 12 else if t = 0 then (if s = 0 then 0 else 11) else 0
set_option maxHeartbeats 400000 in
theorem scheck_some (t s : Int) (t0 : 0 ≤ t) (t1 : t < 18446744073709551616) (s0 : 0 ≤ s) (s1 : s < 18446744073709551616) (hz' : (t == 0) = false) (w : World) :
    Calls Try.prog 82 #[.agg #[.int .u64 t, .int .u64 s]] w fun r w' => r = .returned (.int .i64 (firstE [if decide (s < t) = true then 9 else 0, if decide (4611686018427387904 < t) = true then 12 else 0, if false = true then 11 else 0])) ∧ Ext w w' := by
    obtain ⟨V, hV⟩ : ∃ V, V = firstE [if decide (s < t) = true then 9 else 0, if decide (4611686018427387904 < t) = true then 12 else 0, if false = true then 11 else 0] := ⟨_, rfl⟩
    rw [← hV]
    have HV := Lib.hid hV
    clear hV
    go_enter Try.func82, Try.ntmps82
    go_wp2
    refine wp_region_held_drew (S := fun w' => w'.cell? ⟨w.heap.size, 0, none⟩ = some (.int .u64 t) ∧ w'.cell? ⟨w.heap.size, 1, none⟩ = some (.int .u64 s)) (by kernel_rfl) (by simp [go_sem]) (fun hHeld => ?_)
    (refine' take_in 0 rfl (by kernel_rfl) (by kernel_rfl) (by kernel_rfl) (fun _ _ _ h => h) (by rfl) (by assumption) ?_ ?_; rotate_left; focus (intro w hSw; (try dsimp only at hSw); go_simp; try with_reducible rfl)); try simp only [Act.put, List.setIfInBounds_toArray, List.set_cons_zero, List.set_cons_succ]
    (refine' take_in 1 rfl (by kernel_rfl) (by kernel_rfl) (by kernel_rfl) (fun _ _ _ h => h) (by rfl) (by assumption) ?_ ?_; rotate_left; focus (intro w hSw; (try dsimp only at hSw); go_simp; try with_reducible rfl)); try simp only [Act.put, List.setIfInBounds_toArray, List.set_cons_zero, List.set_cons_succ]
    (refine' take_in 2 rfl (by kernel_rfl) (by kernel_rfl) (by kernel_rfl) (fun _ _ _ h => h) (by rfl) (by assumption) ?_ ?_; rotate_left; focus (intro w hSw; (try dsimp only at hSw); go_simp; try with_reducible rfl)); try simp only [Act.put, List.setIfInBounds_toArray, List.set_cons_zero, List.set_cons_succ]
    (refine' take_in 3 rfl (by kernel_rfl) (by kernel_rfl) (by kernel_rfl) (fun _ _ _ h => h) (by rfl) (by assumption) ?_ ?_; rotate_left; focus (intro w hSw; (try dsimp only at hSw); go_simp; try with_reducible rfl)); try simp only [Act.put, List.setIfInBounds_toArray, List.set_cons_zero, List.set_cons_succ]
    (refine' take_in 4 rfl (by kernel_rfl) (by kernel_rfl) (by kernel_rfl) (fun _ _ _ h => h) (by rfl) (by assumption) ?_ ?_; rotate_left; focus (intro w hSw; (try dsimp only at hSw); go_simp; try with_reducible rfl)); try simp only [Act.put, List.setIfInBounds_toArray, List.set_cons_zero, List.set_cons_succ]
    (refine' take_in 6 rfl (by kernel_rfl) (by kernel_rfl) (by kernel_rfl) (fun _ _ _ h => h) (by rfl) (by assumption) ?_ ?_; rotate_left; focus (intro w hSw; (try dsimp only at hSw); go_simp; try with_reducible rfl)); try simp only [Act.put, List.setIfInBounds_toArray, List.set_cons_zero, List.set_cons_succ]
    (refine' take_in 7 rfl (by kernel_rfl) (by kernel_rfl) (by kernel_rfl) (fun _ _ _ h => h) (by rfl) (by assumption) ?_ ?_; rotate_left; focus (intro w hSw; (try dsimp only at hSw); go_simp; try with_reducible rfl)); try simp only [Act.put, List.setIfInBounds_toArray, List.set_cons_zero, List.set_cons_succ]
    (refine' take_in 8 rfl (by kernel_rfl) (by kernel_rfl) (by kernel_rfl) (fun _ _ _ h => h) (by rfl) (by assumption) ?_ ?_; rotate_left; focus (intro w hSw; (try dsimp only at hSw); go_simp; try with_reducible rfl)); try simp only [Act.put, List.setIfInBounds_toArray, List.set_cons_zero, List.set_cons_succ]
    (refine' take_in 10 rfl (by kernel_rfl) (by kernel_rfl) (by kernel_rfl) (fun _ _ _ h => h) (by rfl) (by assumption) ?_ ?_; rotate_left; focus (intro w hSw; (try dsimp only at hSw); go_simp; try with_reducible rfl)); try simp only [Act.put, List.setIfInBounds_toArray, List.set_cons_zero, List.set_cons_succ]
    (refine' take_in 11 rfl (by kernel_rfl) (by kernel_rfl) (by kernel_rfl) (fun _ _ _ h => h) (by rfl) (by assumption) ?_ ?_; rotate_left; focus (intro w hSw; (try dsimp only at hSw); go_simp; try with_reducible rfl)); try simp only [Act.put, List.setIfInBounds_toArray, List.set_cons_zero, List.set_cons_succ]
    (refine' take_in 12 rfl (by kernel_rfl) (by kernel_rfl) (by kernel_rfl) (fun _ _ _ h => h) (by rfl) (by assumption) ?_ ?_; rotate_left; focus (intro w hSw; (try dsimp only at hSw); go_simp; try with_reducible rfl)); try simp only [Act.put, List.setIfInBounds_toArray, List.set_cons_zero, List.set_cons_succ]
    refine' next_in 5 rfl (by kernel_rfl) (by rfl) (fun K hK => ?_)
    (go_simp; go_at_call 83; refine (sso_any _ _ _).mono ?_; rintro e w1 ⟨rfl, rfl⟩; try go_simp)
    refine hK.out _ _ (by simp [go_sem, World.cell?_alloc_past]) (fun hHeld => ?_); clear hK K; try simp only [Act.put, List.setIfInBounds_toArray, List.set_cons_zero, List.set_cons_succ]
    refine' next_in 9 rfl (by kernel_rfl) (by rfl) (fun K hK => ?_)
    (go_simp; go_at_call 83; refine (sso_any _ _ _).mono ?_; rintro e w1 ⟨rfl, rfl⟩; try go_simp)
    refine hK.out _ _ (by simp [go_sem, World.cell?_alloc_past]) (fun hHeld => ?_); clear hK K; try simp only [Act.put, List.setIfInBounds_toArray, List.set_cons_zero, List.set_cons_succ]
    (refine' take_in 13 rfl (by kernel_rfl) (by kernel_rfl) (by kernel_rfl) (fun _ _ _ h => h) (by rfl) (by assumption) ?_ ?_; rotate_left; focus (intro w hSw; (try dsimp only at hSw); go_simp; try with_reducible rfl)); try simp only [Act.put, List.setIfInBounds_toArray, List.set_cons_zero, List.set_cons_succ]
    (refine' skip_in 14 rfl (by kernel_rfl) (by kernel_rfl) (by kernel_rfl) (fun _ _ _ h => h) (by rfl) (by assumption) ?_); try simp only [Act.put, List.setIfInBounds_toArray, List.set_cons_zero, List.set_cons_succ]
    (refine' skip_in 15 rfl (by kernel_rfl) (by kernel_rfl) (by kernel_rfl) (fun _ _ _ h => h) (by rfl) (by assumption) ?_); try simp only [Act.put, List.setIfInBounds_toArray, List.set_cons_zero, List.set_cons_succ]
    (refine' skip_in 16 rfl (by kernel_rfl) (by kernel_rfl) (by kernel_rfl) (fun _ _ _ h => h) (by rfl) (by assumption) ?_); try simp only [Act.put, List.setIfInBounds_toArray, List.set_cons_zero, List.set_cons_succ]
    (refine' take_in 17 rfl (by kernel_rfl) (by kernel_rfl) (by kernel_rfl) (fun _ _ _ h => h) (by rfl) (by assumption) ?_ ?_; rotate_left; focus (intro w hSw; (try dsimp only at hSw); go_simp; try with_reducible rfl)); try simp only [Act.put, List.setIfInBounds_toArray, List.set_cons_zero, List.set_cons_succ]
    refine' next_in 18 rfl (by kernel_rfl) (by rfl) (fun K hK => ?_)
    (go_simp; go_at_call 83; refine (sso_any _ _ _).mono ?_; rintro e w1 ⟨rfl, rfl⟩; try go_simp)
    refine hK.out _ _ (by simp [go_sem, World.cell?_alloc_past]) (fun hHeld => ?_); clear hK K; try simp only [Act.put, List.setIfInBounds_toArray, List.set_cons_zero, List.set_cons_succ]
    refine' next_in 19 rfl (by kernel_rfl) (by rfl) (fun K hK => ?_)
    go_simp
    refine hK.out _ _ (by simp [go_sem, World.cell?_alloc_past]) (fun hHeld => ?_); clear hK K; try simp only [Act.put, List.setIfInBounds_toArray, List.set_cons_zero, List.set_cons_succ]
    refine' next_in 20 rfl (by kernel_rfl) (by rfl) (fun K hK => ?_)
    go_simp
    go_at_call 81
    refine (sfirst_three _ (w.heap.size + 1) (w.heap.size + 1 + 1) (w.heap.size + 1 + 1 + 1) (w.heap.size + 1 + 1 + 1 + 1) (w.heap.size + 1 + 1 + 1 + 1 + 1) (w.heap.size + 1 + 1 + 1 + 1 + 1 + 1) (decide (s < t)) (decide (4611686018427387904 < t)) false 9 12 11
      (by simp [go_sem]) (by simp [go_sem]) (by simp [go_sem]) (by simp [go_sem]) (by simp [go_sem]) (by simp [go_sem]) (by simp [go_sem]) (by simp [go_sem]) (by simp [go_sem]) HV.out).mono ?_
    rintro e w1 ⟨rfl, rfl⟩
    try go_simp
    refine hK.out _ _ (by simp [go_sem, World.cell?_alloc_past]) (fun hHeld => ?_); clear hK K; try simp only [Act.put, List.setIfInBounds_toArray, List.set_cons_zero, List.set_cons_succ]
    refine' next_in 21 rfl (by kernel_rfl) (by rfl) (fun K hK => ?_)
    go_simp
    refine hK.out _ _ (by simp [go_sem, World.cell?_alloc_past]) (fun hHeld => ?_); clear hK K; try simp only [Act.put, List.setIfInBounds_toArray, List.set_cons_zero, List.set_cons_succ]
    refine wpAnyH_done (by kernel_rfl) ?_ _
    go_wp2
    go_ret
    refine ⟨rfl, ?_⟩
    repeat (first | exact Ext.refl _ | refine Ext.drew ?_ | refine Ext.alloc ?_ _)
set_option maxHeartbeats 400000 in
theorem scheck_none (s : Int) (s0 : 0 ≤ s) (s1 : s < 18446744073709551616) (w : World) :
    Calls Try.prog 82 #[.agg #[.int .u64 0, .int .u64 s]] w fun r w' => r = .returned (.int .i64 (firstE [if decide (s < 0) = true then 9 else 0, if decide (4611686018427387904 < (0 : Int)) = true then 12 else 0, if (s != 0) = true then 11 else 0])) ∧ Ext w w' := by
    obtain ⟨V, hV⟩ : ∃ V, V = firstE [if decide (s < 0) = true then 9 else 0, if decide (4611686018427387904 < (0 : Int)) = true then 12 else 0, if (s != 0) = true then 11 else 0] := ⟨_, rfl⟩
    rw [← hV]
    have HV := Lib.hid hV
    clear hV
    go_enter Try.func82, Try.ntmps82
    go_wp2
    refine wp_region_held_drew (S := fun w' => w'.cell? ⟨w.heap.size, 0, none⟩ = some (.int .u64 0) ∧ w'.cell? ⟨w.heap.size, 1, none⟩ = some (.int .u64 s)) (by kernel_rfl) (by simp [go_sem]) (fun hHeld => ?_)
    (refine' take_in 0 rfl (by kernel_rfl) (by kernel_rfl) (by kernel_rfl) (fun _ _ _ h => h) (by rfl) (by assumption) ?_ ?_; rotate_left; focus (intro w hSw; (try dsimp only at hSw); go_simp; try with_reducible rfl)); try simp only [Act.put, List.setIfInBounds_toArray, List.set_cons_zero, List.set_cons_succ]
    (refine' take_in 1 rfl (by kernel_rfl) (by kernel_rfl) (by kernel_rfl) (fun _ _ _ h => h) (by rfl) (by assumption) ?_ ?_; rotate_left; focus (intro w hSw; (try dsimp only at hSw); go_simp; try with_reducible rfl)); try simp only [Act.put, List.setIfInBounds_toArray, List.set_cons_zero, List.set_cons_succ]
    (refine' take_in 2 rfl (by kernel_rfl) (by kernel_rfl) (by kernel_rfl) (fun _ _ _ h => h) (by rfl) (by assumption) ?_ ?_; rotate_left; focus (intro w hSw; (try dsimp only at hSw); go_simp; try with_reducible rfl)); try simp only [Act.put, List.setIfInBounds_toArray, List.set_cons_zero, List.set_cons_succ]
    (refine' take_in 3 rfl (by kernel_rfl) (by kernel_rfl) (by kernel_rfl) (fun _ _ _ h => h) (by rfl) (by assumption) ?_ ?_; rotate_left; focus (intro w hSw; (try dsimp only at hSw); go_simp; try with_reducible rfl)); try simp only [Act.put, List.setIfInBounds_toArray, List.set_cons_zero, List.set_cons_succ]
    (refine' take_in 4 rfl (by kernel_rfl) (by kernel_rfl) (by kernel_rfl) (fun _ _ _ h => h) (by rfl) (by assumption) ?_ ?_; rotate_left; focus (intro w hSw; (try dsimp only at hSw); go_simp; try with_reducible rfl)); try simp only [Act.put, List.setIfInBounds_toArray, List.set_cons_zero, List.set_cons_succ]
    (refine' take_in 6 rfl (by kernel_rfl) (by kernel_rfl) (by kernel_rfl) (fun _ _ _ h => h) (by rfl) (by assumption) ?_ ?_; rotate_left; focus (intro w hSw; (try dsimp only at hSw); go_simp; try with_reducible rfl)); try simp only [Act.put, List.setIfInBounds_toArray, List.set_cons_zero, List.set_cons_succ]
    (refine' take_in 7 rfl (by kernel_rfl) (by kernel_rfl) (by kernel_rfl) (fun _ _ _ h => h) (by rfl) (by assumption) ?_ ?_; rotate_left; focus (intro w hSw; (try dsimp only at hSw); go_simp; try with_reducible rfl)); try simp only [Act.put, List.setIfInBounds_toArray, List.set_cons_zero, List.set_cons_succ]
    (refine' take_in 8 rfl (by kernel_rfl) (by kernel_rfl) (by kernel_rfl) (fun _ _ _ h => h) (by rfl) (by assumption) ?_ ?_; rotate_left; focus (intro w hSw; (try dsimp only at hSw); go_simp; try with_reducible rfl)); try simp only [Act.put, List.setIfInBounds_toArray, List.set_cons_zero, List.set_cons_succ]
    (refine' take_in 10 rfl (by kernel_rfl) (by kernel_rfl) (by kernel_rfl) (fun _ _ _ h => h) (by rfl) (by assumption) ?_ ?_; rotate_left; focus (intro w hSw; (try dsimp only at hSw); go_simp; try with_reducible rfl)); try simp only [Act.put, List.setIfInBounds_toArray, List.set_cons_zero, List.set_cons_succ]
    (refine' take_in 11 rfl (by kernel_rfl) (by kernel_rfl) (by kernel_rfl) (fun _ _ _ h => h) (by rfl) (by assumption) ?_ ?_; rotate_left; focus (intro w hSw; (try dsimp only at hSw); go_simp; try with_reducible rfl)); try simp only [Act.put, List.setIfInBounds_toArray, List.set_cons_zero, List.set_cons_succ]
    (refine' take_in 12 rfl (by kernel_rfl) (by kernel_rfl) (by kernel_rfl) (fun _ _ _ h => h) (by rfl) (by assumption) ?_ ?_; rotate_left; focus (intro w hSw; (try dsimp only at hSw); go_simp; try with_reducible rfl)); try simp only [Act.put, List.setIfInBounds_toArray, List.set_cons_zero, List.set_cons_succ]
    refine' next_in 5 rfl (by kernel_rfl) (by rfl) (fun K hK => ?_)
    (go_simp; go_at_call 83; refine (sso_any _ _ _).mono ?_; rintro e w1 ⟨rfl, rfl⟩; try go_simp)
    refine hK.out _ _ (by simp [go_sem, World.cell?_alloc_past]) (fun hHeld => ?_); clear hK K; try simp only [Act.put, List.setIfInBounds_toArray, List.set_cons_zero, List.set_cons_succ]
    refine' next_in 9 rfl (by kernel_rfl) (by rfl) (fun K hK => ?_)
    (go_simp; go_at_call 83; refine (sso_any _ _ _).mono ?_; rintro e w1 ⟨rfl, rfl⟩; try go_simp)
    refine hK.out _ _ (by simp [go_sem, World.cell?_alloc_past]) (fun hHeld => ?_); clear hK K; try simp only [Act.put, List.setIfInBounds_toArray, List.set_cons_zero, List.set_cons_succ]
    (refine' take_in 13 rfl (by kernel_rfl) (by kernel_rfl) (by kernel_rfl) (fun _ _ _ h => h) (by rfl) (by assumption) ?_ ?_; rotate_left; focus (intro w hSw; (try dsimp only at hSw); go_simp; try with_reducible rfl)); try simp only [Act.put, List.setIfInBounds_toArray, List.set_cons_zero, List.set_cons_succ]
    (refine' take_in 14 rfl (by kernel_rfl) (by kernel_rfl) (by kernel_rfl) (fun _ _ _ h => h) (by rfl) (by assumption) ?_ ?_; rotate_left; focus (intro w hSw; (try dsimp only at hSw); go_simp; try with_reducible rfl)); try simp only [Act.put, List.setIfInBounds_toArray, List.set_cons_zero, List.set_cons_succ]
    (refine' take_in 15 rfl (by kernel_rfl) (by kernel_rfl) (by kernel_rfl) (fun _ _ _ h => h) (by rfl) (by assumption) ?_ ?_; rotate_left; focus (intro w hSw; (try dsimp only at hSw); go_simp; try with_reducible rfl)); try simp only [Act.put, List.setIfInBounds_toArray, List.set_cons_zero, List.set_cons_succ]
    (refine' take_in 16 rfl (by kernel_rfl) (by kernel_rfl) (by kernel_rfl) (fun _ _ _ h => h) (by rfl) (by assumption) ?_ ?_; rotate_left; focus (intro w hSw; (try dsimp only at hSw); go_simp; try with_reducible rfl)); try simp only [Act.put, List.setIfInBounds_toArray, List.set_cons_zero, List.set_cons_succ]
    (refine' take_in 17 rfl (by kernel_rfl) (by kernel_rfl) (by kernel_rfl) (fun _ _ _ h => h) (by rfl) (by assumption) ?_ ?_; rotate_left; focus (intro w hSw; (try dsimp only at hSw); go_simp; try with_reducible rfl)); try simp only [Act.put, List.setIfInBounds_toArray, List.set_cons_zero, List.set_cons_succ]
    refine' next_in 18 rfl (by kernel_rfl) (by rfl) (fun K hK => ?_)
    (go_simp; go_at_call 83; refine (sso_any _ _ _).mono ?_; rintro e w1 ⟨rfl, rfl⟩; try go_simp)
    refine hK.out _ _ (by simp [go_sem, World.cell?_alloc_past]) (fun hHeld => ?_); clear hK K; try simp only [Act.put, List.setIfInBounds_toArray, List.set_cons_zero, List.set_cons_succ]
    refine' next_in 19 rfl (by kernel_rfl) (by rfl) (fun K hK => ?_)
    go_simp
    refine hK.out _ _ (by simp [go_sem, World.cell?_alloc_past]) (fun hHeld => ?_); clear hK K; try simp only [Act.put, List.setIfInBounds_toArray, List.set_cons_zero, List.set_cons_succ]
    refine' next_in 20 rfl (by kernel_rfl) (by rfl) (fun K hK => ?_)
    go_simp
    go_at_call 81
    refine (sfirst_three _ (w.heap.size + 1) (w.heap.size + 1 + 1) (w.heap.size + 1 + 1 + 1) (w.heap.size + 1 + 1 + 1 + 1) (w.heap.size + 1 + 1 + 1 + 1 + 1) (w.heap.size + 1 + 1 + 1 + 1 + 1 + 1) (decide (s < 0)) (decide (4611686018427387904 < 0)) (s != 0) 9 12 11
      (by simp [go_sem]) (by simp [go_sem]) (by simp [go_sem]) (by simp [go_sem]) (by simp [go_sem]) (by simp [go_sem]) (by simp [go_sem]) (by simp [go_sem]) (by simp [go_sem]) HV.out).mono ?_
    rintro e w1 ⟨rfl, rfl⟩
    try go_simp
    refine hK.out _ _ (by simp [go_sem, World.cell?_alloc_past]) (fun hHeld => ?_); clear hK K; try simp only [Act.put, List.setIfInBounds_toArray, List.set_cons_zero, List.set_cons_succ]
    refine' next_in 21 rfl (by kernel_rfl) (by rfl) (fun K hK => ?_)
    go_simp
    refine hK.out _ _ (by simp [go_sem, World.cell?_alloc_past]) (fun hHeld => ?_); clear hK K; try simp only [Act.put, List.setIfInBounds_toArray, List.set_cons_zero, List.set_cons_succ]
    refine wpAnyH_done (by kernel_rfl) ?_ _
    go_wp2
    go_ret
    refine ⟨rfl, ?_⟩
    repeat (first | exact Ext.refl _ | refine Ext.drew ?_ | refine Ext.alloc ?_ _)
theorem scheck_any (t s : Int) (ht : Word t) (hs : Word s) (w : World) :
    Calls Try.prog 82 #[.agg #[.int .u64 t, .int .u64 s]] w fun r w' => r = .returned (.int .i64 (chkE t s)) ∧ Ext w w' := by
  obtain ⟨t0, t1⟩ := ht
  obtain ⟨s0, s1⟩ := hs
  by_cases hz : t = 0
  · subst hz
    refine (scheck_none s s0 s1 w).mono ?_
    rintro e w1 ⟨rfl, h⟩
    refine ⟨ret_int ?_, h⟩
    have h1 : ¬ s < 0 := by omega
    by_cases h2 : s = 0
    · subst h2; rfl
    · simp [firstE, chkE, h1, h2]
  · refine (scheck_some t s t0 t1 s0 s1 (by simpa using hz) w).mono ?_
    rintro e w1 ⟨rfl, h⟩
    refine ⟨ret_int ?_, h⟩
    by_cases h1 : s < t <;> by_cases h2 : 4611686018427387904 < t <;> simp [firstE, chkE, h1, h2, hz]
end Go.Proofs.Ythaknigljjnnaaa
