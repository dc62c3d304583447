/- codec's Reader: its methods over a reader that lies in memory. Conditions stand in each lemma. -/
import Derived.Test.YtnbeejgppooamaaNumber
import Derived.Test.YtnbeejgppooamaaHas
set_option linter.unusedVariables false
set_option linter.unusedSimpArgs false
namespace Go.Proofs.Ytnbeejgppooamaa
open Go.RowKit

/-- a fault's cells -/
def FltAt (w : World) (g : Nat) (v : Value) : Option (Int × Int) → Prop
  | none => v = .pointer none
  | some (e, a) => ∃ fb, v = .pointer (some ⟨fb, 0, none⟩) ∧ (g < fb ∧ fb < w.heap.size) ∧ w.cell? ⟨fb, 0, none⟩ = some (.int .i64 e) ∧ w.cell? ⟨fb, 1, none⟩ = some (.int .i64 a) ∧ ∃ cs z, w.heap[fb]? = some (.cells cs 60 z)
/-- a reader lies at block g: its bytes (below g), its place, its fault -/
structure Rd (w : World) (g : Nat) (L : List Nat) (k : Nat) (flt : Option (Int × Int)) : Prop where
  b : ∃ A c, w.cell? ⟨g, 0, none⟩ = some (.slice A L.length c) ∧ Sl w 1 A L.length c (by_ L) ∧ ∀ b o s, A = some ⟨b, o, s⟩ → b < g
  c1 : w.cell? ⟨g, 1, none⟩ = some (.int .i64 (k : Int))
  c2 : w.cell? ⟨g, 2, none⟩ = some (.bool true)
  c3 : ∃ v, w.cell? ⟨g, 3, none⟩ = some v ∧ FltAt w g v flt
  f1 : w.frozen? ⟨g, 1, none⟩ = false
  f3 : w.frozen? ⟨g, 3, none⟩ = false
  lt : g < w.heap.size
  le : k ≤ L.length
  byt : Byt L
theorem FltAt.keep {w w' : World} {g : Nat} {v : Value} {flt : Option (Int × Int)} (h : FltAt w g v flt) (hb : Below w.heap.size w w') : FltAt w' g v flt := by
  match flt, h with
  | none, h => exact h
  | some (e, a), ⟨fb, h1, h2, h3, h4, cs, z, h5⟩ => exact ⟨fb, h1, ⟨h2.1, by have := hb.size; omega⟩, (hb.cell (p := ⟨fb, 0, none⟩) h2.2).trans h3, (hb.cell (p := ⟨fb, 1, none⟩) h2.2).trans h4, cs, z, (hb.block fb h2.2).trans h5⟩
theorem Rd.keep {w w' : World} {g k : Nat} {L : List Nat} {flt : Option (Int × Int)} (h : Rd w g L k flt) (hb : Below w.heap.size w w') : Rd w' g L k flt := by
  obtain ⟨A, c, h0, h1, h2⟩ := h.b
  obtain ⟨v, h3, h4⟩ := h.c3
  have cl : ∀ o, w'.cell? ⟨g, o, none⟩ = w.cell? ⟨g, o, none⟩ := fun o => hb.cell (p := ⟨g, o, none⟩) h.lt
  have fl : ∀ o, w'.frozen? ⟨g, o, none⟩ = w.frozen? ⟨g, o, none⟩ := fun o => hb.frozen (p := ⟨g, o, none⟩) h.lt
  exact ⟨⟨A, c, (cl 0).trans h0, h1.ext hb, h2⟩, (cl 1).trans h.c1, (cl 2).trans h.c2, ⟨v, (cl 3).trans h3, h4.keep hb⟩, (fl 1).trans h.f1, (fl 3).trans h.f3, by have := h.lt; have := hb.size; omega, h.le, h.byt⟩
theorem Rd.drewN {w : World} {g k : Nat} {L : List Nat} {flt : Option (Int × Int)} (h : Rd w g L k flt) (n : Nat) : Rd (w.drewN n) g L k flt := h.keep (below_drewN (Below.refl _ _) n)
theorem cell_set_other {w : World} {g o b o' : Nat} {v : Value} (h : b ≠ g ∨ o' ≠ o) : (w.setCell ⟨g, o, none⟩ v).cell? ⟨b, o', none⟩ = w.cell? ⟨b, o', none⟩ :=
  World.cell?_setCell_other _ _ _ _ (by intro e; simp at e; omega)
theorem Sl.setOther {w : World} {sz n c g o : Nat} {A : Option Addr} {xs : List Value} {v : Value} (h : Sl w sz A n c xs) (hg : ∀ b o s, A = some ⟨b, o, s⟩ → b < g) : Sl (w.setCell ⟨g, o, none⟩ v) sz A n c xs :=
  ⟨h.1, h.2.1, h.2.2.1, fun hn => by
    obtain ⟨b, o', e, hb, hc⟩ := h.2.2.2 hn
    have := hg _ _ _ e
    exact ⟨b, o', e, by simpa using hb, fun j u hu => (cell_set_other (.inl (by omega))).trans (hc j u hu)⟩⟩
theorem cnone_any (g : Nat) (w : World) (h2 : w.cell? ⟨g, 2, none⟩ = some (.bool true)) :
    Calls Try.prog 89 #[.pointer (some ⟨g, 0, none⟩)] w fun r w' => r = .returned (.bool false) ∧ w = w' := by
  go_enter Try.func89, Try.ntmps89
  go_wp2
  go_ret
  exact ⟨rfl, rfl⟩
/-- a reader's fault behind a Fail -/
def failF (flt : Option (Int × Int)) (e a : Int) : Option (Int × Int) := match flt with | some x => some x | none => if e = 0 then none else some (e, a)
theorem cFail_old (g k : Nat) (L : List Nat) (x : Int × Int) (e a : Int) (w : World) (h : Rd w g L k (some x)) :
    Calls Try.prog 69 #[.pointer (some ⟨g, 0, none⟩), .int .i64 e, .int .i64 a] w fun r w' => (∃ v, r = .returned v) ∧ w = w' := by
  have H2 := h.c2
  obtain ⟨v, H3, fb, rfl, _⟩ := h.c3
  clear h
  go_enter Try.func69, Try.ntmps69
  go_wp2_with fail
  refine (cnone_any g _ H2).mono ?_
  rintro r w1 ⟨rfl, rfl⟩
  go_wp2
  go_end0
  exact ⟨⟨_, rfl⟩, rfl⟩
theorem cFail_zero (g k : Nat) (L : List Nat) (a : Int) (w : World) (h : Rd w g L k none) :
    Calls Try.prog 69 #[.pointer (some ⟨g, 0, none⟩), .int .i64 0, .int .i64 a] w fun r w' => (∃ v, r = .returned v) ∧ w = w' := by
  have H2 := h.c2
  obtain ⟨v, H3, rfl⟩ := h.c3
  clear h
  go_enter Try.func69, Try.ntmps69
  go_wp2_with fail
  refine (cnone_any g _ H2).mono ?_
  rintro r w1 ⟨rfl, rfl⟩
  go_wp2
  go_end0
  exact ⟨⟨_, rfl⟩, rfl⟩
theorem cFail_new (g k : Nat) (L : List Nat) (e a : Int) (he : ¬ e = 0) (w : World) (h : Rd w g L k none) :
    Calls Try.prog 69 #[.pointer (some ⟨g, 0, none⟩), .int .i64 e, .int .i64 a] w fun r w' => (∃ v, r = .returned v) ∧ Rd w' g L k (some (e, a)) ∧ But (· = g) w w' := by
  have H2 := h.c2
  obtain ⟨v, H3, rfl⟩ := h.c3
  have F3 := h.f3
  have lt := h.lt
  have HH := Lib.hid h
  have h1 : (e != 0) = true := by simpa using he
  have h2 : (e == 0) = false := by simpa using he
  clear h he
  go_enter Try.func69, Try.ntmps69
  go_wp2_with fail
  refine (cnone_any g _ H2).mono ?_
  rintro r w1 ⟨rfl, rfl⟩
  go_wp2
  go_end0
  have hh := HH.out
  obtain ⟨A, c, q0, q1, q2⟩ := hh.b
  have hb := (Below.refl (w.setCell ⟨g, 3, none⟩ (.pointer (some ⟨w.heap.size, 0, none⟩))).heap.size (w.setCell ⟨g, 3, none⟩ (.pointer (some ⟨w.heap.size, 0, none⟩)))).alloc (Nat.le_refl _) (.cells #[.int .i64 e, .int .i64 a] 60)
  have hz : (w.setCell ⟨g, 3, none⟩ (.pointer (some ⟨w.heap.size, 0, none⟩))).heap.size = w.heap.size := by simp
  have cl : ∀ o, _ = (w.setCell ⟨g, 3, none⟩ (.pointer (some ⟨w.heap.size, 0, none⟩))).cell? ⟨g, o, none⟩ := fun o => hb.cell (p := ⟨g, o, none⟩) (by rw [hz]; exact lt)
  have fl : ∀ o, _ = (w.setCell ⟨g, 3, none⟩ (.pointer (some ⟨w.heap.size, 0, none⟩))).frozen? ⟨g, o, none⟩ := fun o => hb.frozen (p := ⟨g, o, none⟩) (by rw [hz]; exact lt)
  refine ⟨⟨_, rfl⟩, ⟨⟨A, c, (cl 0).trans ((cell_set_other (.inr (by decide))).trans q0), (q1.setOther q2).ext hb, q2⟩, (cl 1).trans ((cell_set_other (.inr (by decide))).trans hh.c1), (cl 2).trans ((cell_set_other (.inr (by decide))).trans hh.c2), ⟨_, (cl 3).trans (World.cell?_setCell_same' _ _ _ (by rw [H3]; rfl)), w.heap.size, rfl, ⟨lt, by simp⟩, ?_, ?_, ?_⟩, (fl 1).trans (by rw [World.frozen?_setCell]; exact hh.f1), (fl 3).trans (by rw [World.frozen?_setCell]; exact hh.f3), by simp; omega, hh.le, hh.byt⟩, ((But.refl (· = g) w).setCell (p := ⟨g, 3, none⟩) (show g = g from rfl) _).alloc _⟩
  · simp [go_sem]
  · simp [go_sem]
  · exact ⟨_, _, by have := World.alloc_heap_new (w.setCell ⟨g, 3, none⟩ (.pointer (some ⟨w.heap.size, 0, none⟩))) (.cells #[.int .i64 e, .int .i64 a] 60); rwa [hz] at this⟩
theorem cFail_any (g k : Nat) (L : List Nat) (flt : Option (Int × Int)) (e a : Int) (w : World) (h : Rd w g L k flt) :
    Calls Try.prog 69 #[.pointer (some ⟨g, 0, none⟩), .int .i64 e, .int .i64 a] w fun r w' => (∃ v, r = .returned v) ∧ Rd w' g L k (failF flt e a) ∧ But (· = g) w w' := by
  rcases flt with _ | x
  · by_cases he : e = 0
    · subst he
      refine (cFail_zero g k L a w h).mono ?_
      rintro r w' ⟨h1, rfl⟩
      exact ⟨h1, h, But.refl _ _⟩
    · have e1 : failF none e a = some (e, a) := if_neg he
      rw [e1]
      exact cFail_new g k L e a he w h
  · refine (cFail_old g k L x e a w h).mono ?_
    rintro r w' ⟨h1, rfl⟩
    exact ⟨h1, h, But.refl _ _⟩
theorem cNewReader_any (A : Option Addr) (c : Nat) (L : List Nat) (hB : Byt L) (w : World) (h : Sl w 1 A L.length c (by_ L)) (hn : L.length < 1099511627776) (hnil : A = none → c = 0) :
    Calls Try.prog 63 #[.slice A L.length c] w fun r w' => ∃ g, r = .returned (.pointer (some ⟨g, 0, none⟩)) ∧ w.heap.size ≤ g ∧ Rd w' g L 0 none ∧ Ext w w' := by
  have C := Lib.hid (cClone_any A c L w h hn hnil)
  have HB := Lib.hid hB
  clear h hnil hB
  go_enter Try.func63, Try.ntmps63
  go_wp2_with fail
  refine C.out.mono ?_
  rintro r w1 ⟨v, rfl, h1, h2⟩
  obtain ⟨A1, c1, rfl, s1⟩ := own_parts h1
  have hlt : ∀ b o s, A1 = some ⟨b, o, s⟩ → b < w1.heap.size := by
    intro b o s e
    subst e
    exact h1.lt b rfl |>.2
  have H := Lib.hid (And.intro h1 (And.intro h2 (And.intro s1 hlt)))
  clear h1 h2 C s1 hlt
  go_wp2_with fail
  go_ret
  obtain ⟨h1, h2, s1, hlt⟩ := H.out
  have hz := h2.size
  exact ⟨w1.heap.size, rfl, hz, ⟨⟨A1, c1, by simp [go_sem], s1.ext ((Ext.refl _).alloc _), hlt⟩, by simp [go_sem], by simp [go_sem], ⟨_, by simp [go_sem], rfl⟩, by simp [go_sem], by simp [go_sem], by simp, Nat.zero_le _, HB.out⟩, h2.alloc _⟩
theorem wrap64_eq (n : Int) : wrap64 n = IntKind.i64.wrap n := by
  rw [IntKind.wrap_i64]
  unfold wrap64
  rfl
/-- a number within bounds -/
def bndE (e n least most : Int) : Int := if e = 0 then (if most < n ∨ (0 < least ∧ n < least) then 3 else 0) else e
set_option maxHeartbeats 1000000 in
theorem cRN1_any (A : Option Addr) (m c : Nat) (V : Value) (n k e : Int) (n0 : 0 ≤ n) (n1 : n < 18446744073709551616) (mb lb : Nat) (least most : Int) (h0 : 0 ≤ least) (h1 : least ≤ 9223372036854775807) (h2 : 0 ≤ most) (h3 : most ≤ 9223372036854775807) (w : World)
    (C : Hid (Calls Try.prog 88 #[.slice A m c] w fun r w' => r = .returned (.tuple #[.int .u64 n, .int .i64 k, .int .i64 e]) ∧ w = w')) (cm : w.cell? ⟨mb, 0, none⟩ = some (.int .i64 most)) (cl : w.cell? ⟨lb, 0, none⟩ = some (.int .i64 least)) :
    Calls Try.prog 87 #[.slice A m c, .pointer (some ⟨mb, 0, none⟩), .pointer (some ⟨lb, 0, none⟩)] w fun r w' => r = .returned (.tuple #[.int .i64 (IntKind.i64.wrap n), .int .i64 k, .int .i64 (bndE e n least most)]) ∧ w = w' := by
  unfold bndE
  by_cases he : e = 0
  · subst he
    rw [if_pos rfl]
    have hmf : decide (most < 0) = false := decide_eq_false (by omega)
    by_cases hm : most < n
    · rw [if_pos (.inl hm)]
      go_enter Try.func87, Try.ntmps87
      go_wp2_with fail
      refine C.out.mono ?_
      rintro r w1 ⟨rfl, rfl⟩
      go_wp2
      exact bodyPost_ret (v := .tuple #[.int .i64 (IntKind.i64.wrap n), .int .i64 k, .int .i64 3]) (by simp [results, Try.results87, go_sem]; first | rfl | exact wrap64_eq n | exact (IntWalk.i64_in n (by omega)).symm) rfl ⟨rfl, rfl⟩
    · by_cases hl : 0 < least
      · by_cases hn : n < least
        · rw [if_pos (.inr ⟨hl, hn⟩)]
          go_enter Try.func87, Try.ntmps87
          go_wp2_with fail
          refine C.out.mono ?_
          rintro r w1 ⟨rfl, rfl⟩
          go_wp2
          exact bodyPost_ret (v := .tuple #[.int .i64 (IntKind.i64.wrap n), .int .i64 k, .int .i64 3]) (by simp [results, Try.results87, go_sem]; first | rfl | exact wrap64_eq n | exact (IntWalk.i64_in n (by omega)).symm) rfl ⟨rfl, rfl⟩
        · rw [if_neg (by omega)]
          go_enter Try.func87, Try.ntmps87
          go_wp2_with fail
          refine C.out.mono ?_
          rintro r w1 ⟨rfl, rfl⟩
          go_wp2
          exact bodyPost_ret (v := .tuple #[.int .i64 (IntKind.i64.wrap n), .int .i64 k, .int .i64 0]) (by simp [results, Try.results87, go_sem]; first | rfl | exact wrap64_eq n | exact (IntWalk.i64_in n (by omega)).symm) rfl ⟨rfl, rfl⟩
      · rw [if_neg (by omega)]
        go_enter Try.func87, Try.ntmps87
        go_wp2_with fail
        refine C.out.mono ?_
        rintro r w1 ⟨rfl, rfl⟩
        go_wp2
        exact bodyPost_ret (v := .tuple #[.int .i64 (IntKind.i64.wrap n), .int .i64 k, .int .i64 0]) (by simp [results, Try.results87, go_sem]; first | rfl | exact wrap64_eq n | exact (IntWalk.i64_in n (by omega)).symm) rfl ⟨rfl, rfl⟩
  · rw [if_neg he]
    have hef : (e == 0) = false := beq_false_of_ne he
    go_enter Try.func87, Try.ntmps87
    go_wp2_with fail
    refine C.out.mono ?_
    rintro r w1 ⟨rfl, rfl⟩
    go_wp2
    exact bodyPost_ret (v := .tuple #[.int .i64 (IntKind.i64.wrap n), .int .i64 k, .int .i64 e]) (by simp [results, Try.results87, go_sem]; first | rfl | exact wrap64_eq n | exact (IntWalk.i64_in n (by omega)).symm) rfl ⟨rfl, rfl⟩
theorem sizeOf_u8 (w : World) : (sizeOf (Try.prog.elem 56)).run Try.prog w = .ok 1 w := by
  obtain ⟨i0, hi, hz0, hz1, hz2⟩ := info_parts u8_info
  have e : Try.prog.elem 56 = 5 := by kernel_rfl
  rw [e]
  simp [sizeOf, typeInfo, hi, hz1]
theorem Rd.setAt {w : World} {g k : Nat} {L : List Nat} {flt : Option (Int × Int)} (h : Rd w g L k flt) (j : Nat) (hj : j ≤ L.length) : Rd (w.setCell ⟨g, 1, none⟩ (.int .i64 (j : Int))) g L j flt := by
  obtain ⟨A, c, h0, h1, h2⟩ := h.b
  obtain ⟨v, h3, h4⟩ := h.c3
  have c1 := h.c1
  refine ⟨⟨A, c, (cell_set_other (.inr (by decide))).trans h0, h1.setOther h2, h2⟩, World.cell?_setCell_same' _ _ _ (by rw [c1]; rfl), (cell_set_other (.inr (by decide))).trans h.c2, ⟨v, (cell_set_other (.inr (by decide))).trans h3, ?_⟩, by rw [World.frozen?_setCell]; exact h.f1, by rw [World.frozen?_setCell]; exact h.f3, by simpa using h.lt, hj, h.byt⟩
  match flt, h4 with
  | none, h4 => exact h4
  | some (e, a), ⟨fb, k1, k2, k3, k4, cs, z, k5⟩ => exact ⟨fb, k1, ⟨k2.1, by simpa using k2.2⟩, (cell_set_other (.inl (by omega))).trans k3, (cell_set_other (.inl (by omega))).trans k4, cs, z, (Below.heap_setCell _ _ _ _ (by simp; omega)).trans k5⟩
/-- a store into a block that is none of the reader's -/
theorem Rd.setOther {w : World} {g k : Nat} {L : List Nat} {flt : Option (Int × Int)} (h : Rd w g L k flt) {b o : Nat} {v : Value} (hg : g < b) (ht : ∃ cs t z, w.heap[b]? = some (.cells cs t z) ∧ t ≠ 60) : Rd (w.setCell ⟨b, o, none⟩ v) g L k flt := by
  obtain ⟨A, c, h0, h1, h2⟩ := h.b
  obtain ⟨v3, h3, h4⟩ := h.c3
  have ne : ∀ o', g ≠ b ∨ o' ≠ o := fun _ => .inl (by omega)
  refine ⟨⟨A, c, (cell_set_other (ne _)).trans h0, h1.setOther (fun b' o' s e => by have := h2 b' o' s e; omega), h2⟩, (cell_set_other (ne _)).trans h.c1, (cell_set_other (ne _)).trans h.c2, ⟨v3, (cell_set_other (ne _)).trans h3, ?_⟩, by rw [World.frozen?_setCell]; exact h.f1, by rw [World.frozen?_setCell]; exact h.f3, by simpa using h.lt, h.le, h.byt⟩
  match flt, h4 with
  | none, h4 => exact h4
  | some (e, a), ⟨fb, k1, k2, k3, k4, cs, z, k5⟩ =>
    have hne : fb ≠ b := by
      intro hh
      subst hh
      obtain ⟨cs', t', z', k6, k7⟩ := ht
      rw [k5] at k6
      injection k6 with k6
      injection k6 with _ k8
      exact k7 k8.symm
    exact ⟨fb, k1, ⟨k2.1, by simpa using k2.2⟩, (cell_set_other (.inl hne)).trans k3, (cell_set_other (.inl hne)).trans k4, cs, z, (Below.heap_setCell _ _ _ _ (by simpa using hne)).trans k5⟩
theorem by_drop (L : List Nat) (k : Nat) : (by_ L).drop k = by_ (L.drop k) := by unfold by_; rw [List.map_drop]
theorem Byt.drop {L : List Nat} (h : Byt L) (k : Nat) : Byt (L.drop k) := fun x hx => h x (List.mem_of_mem_drop hx)
theorem Sl.bdrop {w : World} {A : Option Addr} {n c k : Nat} {L : List Nat} (h : Sl w 1 A n c (by_ L)) (hk : k ≤ n) : Sl w 1 (if c = k then A else A.map (·.add (k * 1))) (n - k) (c - k) (by_ (L.drop k)) := by
  have := h.drop hk
  rw [Nat.mul_one, by_drop] at this
  simpa using this
theorem numGo_lt : ∀ (l : List Nat) (i acc : Nat), i ≤ 9 → acc < 2 ^ (7 * i) → (numGo l i acc).1 < 18446744073709551616 ∧ (numGo l i acc).2.1 ≤ i + l.length ∧ 0 ≤ (numGo l i acc).2.2 ∧ (numGo l i acc).2.2 ≤ 6
  | [], i, acc, _, _ => by simp [numGo]
  | c :: l, i, acc, hi, ha => by
    rw [numGo]
    split
    · simp
    · rename_i hn
      have hs := acc_small (c := c % 128) ha hi (by omega) (by omega)
      split
      · exact ⟨hs.2, by first | (simp; done) | (simp; omega), by simp, by simp⟩
      · have h := numGo_lt l (i + 1) (acc + c % 128 * 2 ^ (7 * i)) (by omega) (acc_step ha (by omega))
        exact ⟨h.1, by have := h.2.1; simp; omega, h.2.2⟩
/-- what a read leaves -/
def RdP (g : Nat) (L : List Nat) (W : World) (v : Int) (k : Nat) (flt : Option (Int × Int)) (r : Ending) (w' : World) : Prop := r = .returned (.int .i64 v) ∧ Rd w' g L k flt ∧ But (· = g) W w'
theorem creadI_old (g k : Nat) (L : List Nat) (x : Int × Int) (v : Value) (w : World) (h : Rd w g L k (some x)) :
    Calls Try.prog 86 #[.pointer (some ⟨g, 0, none⟩), v] w fun r w' => r = .returned (.int .i64 0) ∧ w = w' := by
  have H2 := h.c2
  obtain ⟨v, H3, fb, rfl, _⟩ := h.c3
  clear h
  go_enter Try.func86, Try.ntmps86
  go_wp2_with fail
  refine (cnone_any g _ H2).mono ?_
  rintro r w1 ⟨rfl, rfl⟩
  go_wp2
  go_ret
  exact ⟨rfl, rfl⟩
set_option maxRecDepth 100000 in
set_option maxHeartbeats 1000000 in
theorem creadI_go (g k : Nat) (L : List Nat) (n kk e : Int) (mb lb : Nat) (W : World) (h : Rd W g L k none) (hle : 0 ≤ kk) (hk2 : (k : Int) + kk ≤ L.length) (hL : L.length < 1099511627776)
    (CN : Hid (∀ (A : Option Addr) (c : Nat) (w : World), Sl w 1 A (L.length - k) c (by_ (L.drop k)) → (∀ b, w.cell? b = W.cell? b) → Calls Try.prog 87 #[.slice A (L.length - k) c, .pointer (some ⟨mb, 0, none⟩), .pointer (some ⟨lb, 0, none⟩)] w fun r w' => r = .returned (.tuple #[.int .i64 n, .int .i64 kk, .int .i64 e]) ∧ w = w')) :
    Calls Try.prog 86 #[.pointer (some ⟨g, 0, none⟩), .func (.func 87) #[] #[.pointer (some ⟨mb, 0, none⟩), .pointer (some ⟨lb, 0, none⟩)]] W fun r w' => r = .returned (.int .i64 (if e = 0 then n else 0)) ∧ Rd w' g L (if e = 0 then k + kk.toNat else k) (failF none e k) ∧ But (· = g) W w' := by
  have H2 := h.c2
  have H1 := h.c1
  obtain ⟨v, H3, rfl⟩ := h.c3
  obtain ⟨A, c, H0, hs, _⟩ := h.b
  have hkl := h.le
  have hd := Lib.hid (hs.bdrop hkl)
  have F1 := h.f1
  have HH := Lib.hid h
  have hsm := hs.small
  have hcs : L.length ≤ c := hs.2.1
  clear h hs
  generalize hN : L.length = N at *
  replace hN := Lib.hid hN
  obtain ⟨A2, hA2⟩ : ∃ A2, A2 = (if c = k then A else A.map (·.add (k * 1))) := ⟨_, rfl⟩
  rw [← hA2] at hd
  have hsl : ∀ w, (Instr.slice 56 (.slice A N c) (some (.int .i64 (k : Int))) none none).run Try.prog w = .ok (.slice A2 (N - k) (c - k)) w := by
    intro w
    have hq := run_slice_l (P := Try.prog) (w := w) 56 A N c (by kernel_rfl) .i64 (k : Int) (by omega) (by omega)
    rw [hq, hA2]
    simp [go_sem, sizeOf_u8 w]
  replace hA2 := Lib.hid hA2
  have hkI : (k : Int) ≤ N := by omega
  by_cases he : e = 0
  · subst he
    rw [if_pos rfl, if_pos rfl]
    show Calls _ _ _ _ (RdP g L W n (k + kk.toNat) none)
    go_enter Try.func86, Try.ntmps86
    go_wp2_with fail
    refine (cnone_any g _ H2).mono ?_
    rintro r w1 ⟨rfl, rfl⟩
    go_wp2_with fail
    go_quiet ((go_at_call 87; exact Calls.quiet_of_same ((CN.out A2 (c - k) _ (hd.out.ext ((Ext.refl _).drewN _)) (fun _ => rfl)).mono fun r w' h => ⟨h.1, h.2.symm⟩)))
    have hkk : (k : Int) + kk < 9223372036854775808 := by omega
    go_wp2
    go_ret
    refine ⟨rfl, ?_, ((But.refl (· = g) W).drewN nq).setCell (p := ⟨g, 1, none⟩) (show g = g from rfl) _⟩
    have hh := (HH.out.drewN nq).setAt (k + kk.toNat) (by rw [hN.out]; omega)
    rw [show ((k + kk.toNat : Nat) : Int) = (k : Int) + kk from by omega] at hh
    exact hh
  · have hef : (e == 0) = false := beq_false_of_ne he
    rw [if_neg he, if_neg he]
    show Calls _ _ _ _ (RdP g L W 0 k (failF none e k))
    go_enter Try.func86, Try.ntmps86
    go_wp2_with fail
    refine (cnone_any g _ H2).mono ?_
    rintro r w1 ⟨rfl, rfl⟩
    go_wp2_with fail
    go_quiet ((go_at_call 87; exact Calls.quiet_of_same ((CN.out A2 (c - k) _ (hd.out.ext ((Ext.refl _).drewN _)) (fun _ => rfl)).mono fun r w' h => ⟨h.1, h.2.symm⟩)))
    have CF := Lib.hid (cFail_any g k L none e k _ (HH.out.drewN nq))
    clear he
    go_wp2_with fail
    refine CF.out.mono ?_
    rintro r w1 ⟨⟨v, rfl⟩, hr, hb⟩
    have HR := Lib.hid (And.intro hr hb)
    clear hr hb CF
    go_wp2_with fail
    go_ret
    exact ⟨rfl, HR.out.1, ((But.refl _ W).drewN nq).trans HR.out.2⟩
/-- what 'N' reads: the number, the place behind it, the fault -/
def rnE (L : List Nat) (k : Nat) (least most : Int) : Int := bndE (numGo (L.drop k) 0 0).2.2 ((numGo (L.drop k) 0 0).1 : Int) least most
def rnV (L : List Nat) (k : Nat) (flt : Option (Int × Int)) (least most : Int) : Int := if flt = none ∧ rnE L k least most = 0 then ((numGo (L.drop k) 0 0).1 : Int) else 0
def rnK (L : List Nat) (k : Nat) (flt : Option (Int × Int)) (least most : Int) : Nat := if flt = none ∧ rnE L k least most = 0 then k + (numGo (L.drop k) 0 0).2.1 else k
def rnF (L : List Nat) (k : Nat) (flt : Option (Int × Int)) (least most : Int) : Option (Int × Int) := if flt = none then failF none (rnE L k least most) k else flt
theorem rnE_zero {L : List Nat} {k : Nat} {least most : Int} (h : rnE L k least most = 0) : (numGo (L.drop k) 0 0).2.2 = 0 ∧ ((numGo (L.drop k) 0 0).1 : Int) ≤ most := by
  unfold rnE bndE at h
  split at h
  · rename_i h0
    split at h
    · omega
    · exact ⟨h0, by omega⟩
  · contradiction
theorem cRN_any (g k : Nat) (L : List Nat) (flt : Option (Int × Int)) (least most : Int) (h0 : 0 ≤ least) (h1 : least ≤ 9223372036854775807) (h2 : 0 ≤ most) (h3 : most ≤ 9223372036854775807) (hL : L.length < 1099511627776) (w : World) (h : Rd w g L k flt) :
    Calls Try.prog 64 #[.pointer (some ⟨g, 0, none⟩), .int .i64 least, .int .i64 most] w (RdP g L w (rnV L k flt least most) (rnK L k flt least most) (rnF L k flt least most)) := by
  have hmf : ∀ (fn : Fn) (first cap : Array Value) (w : World), (Instr.makeFunc fn first cap).run Try.prog w = .ok (.func fn first cap) w := fun _ _ _ _ => rfl
  have hb : Below w.heap.size w ((w.alloc (.cells #[.int .i64 least] 3)).alloc (.cells #[.int .i64 most] 3)) := ((Below.refl _ w).alloc (Nat.le_refl _) _).alloc (by simp) _
  have hr := h.keep hb
  have hbg : But (· = g) w ((w.alloc (.cells #[.int .i64 least] 3)).alloc (.cells #[.int .i64 most] 3)) := But.ofExt hb
  have main : Calls Try.prog 86 #[.pointer (some ⟨g, 0, none⟩), .func (.func 87) #[] #[.pointer (some ⟨w.heap.size + 1, 0, none⟩), .pointer (some ⟨w.heap.size, 0, none⟩)]] ((w.alloc (.cells #[.int .i64 least] 3)).alloc (.cells #[.int .i64 most] 3)) (RdP g L w (rnV L k flt least most) (rnK L k flt least most) (rnF L k flt least most)) := by
    rcases flt with _ | x
    · have hn := numGo_lt (L.drop k) 0 0 (by decide) (by decide)
      have hc := @cnumber_any
      have hkl := h.le
      have hlen : (L.drop k).length = L.length - k := List.length_drop ..
      have C := creadI_go g k L (IntKind.i64.wrap ((numGo (L.drop k) 0 0).1 : Int)) ((numGo (L.drop k) 0 0).2.1 : Int) (rnE L k least most) (w.heap.size + 1) w.heap.size _ hr (by omega) (by have := hn.2.1; omega) hL
        (Lib.hid fun A c w' hs hcell => by
          have hq : (L.length - k) = (L.drop k).length := hlen.symm
          refine cRN1_any A _ c (.bool true) _ _ _ (by omega) (by omega) (w.heap.size + 1) w.heap.size least most h0 h1 h2 h3 w' (Lib.hid ?_) ?_ ?_
          · exact cnumber_any A (L.length - k) c (L.drop k) w' hs (h.byt.drop k)
          · rw [hcell]; simp [go_sem]
          · rw [hcell]; simp [go_sem])
      refine C.mono ?_
      rintro r w' ⟨hr1, hr2, hr3⟩
      have hb3 := hbg.trans hr3
      by_cases he : rnE L k least most = 0
      · obtain ⟨z1, z2⟩ := rnE_zero he
        rw [if_pos he] at hr1 hr2
        rw [IntWalk.i64_in _ (by omega)] at hr1
        rw [he] at hr2
        refine ⟨?_, ?_, hb3⟩
        · rw [hr1]; unfold rnV; rw [if_pos ⟨rfl, he⟩]
        · unfold rnK rnF; rw [if_pos ⟨rfl, he⟩, if_pos rfl, he]; simpa using hr2
      · rw [if_neg he] at hr1 hr2
        refine ⟨?_, ?_, hb3⟩
        · rw [hr1]; unfold rnV; rw [if_neg (fun hh => he hh.2)]
        · unfold rnK rnF; rw [if_neg (fun hh => he hh.2), if_pos rfl]; exact hr2
    · refine (creadI_old g k L x _ _ hr).mono ?_
      rintro r w' ⟨rfl, rfl⟩
      refine ⟨?_, ?_, hbg⟩
      · unfold rnV; rw [if_neg (fun hh => by cases hh.1)]
      · unfold rnK rnF; rw [if_neg (fun hh => by cases hh.1), if_neg (fun hh => by cases hh)]; exact hr
  replace main := Lib.hid main
  clear h hb hr hbg
  go_enter Try.func64, Try.ntmps64
  go_wp2_with fail
  refine main.out.mono ?_
  rintro r w1 ⟨rfl, hr1, hr2⟩
  have H := Lib.hid (show RdP g L w (rnV L k flt least most) (rnK L k flt least most) (rnF L k flt least most) (.returned (.int .i64 (rnV L k flt least most))) w1 from ⟨rfl, hr1, hr2⟩)
  clear hr1 hr2 main
  go_wp2_with fail
  go_ret
  exact H.out
def atF (flt : Option (Int × Int)) (k : Nat) : Int := match flt with | some x => x.2 | none => k
theorem cAt_any (g k : Nat) (L : List Nat) (flt : Option (Int × Int)) (w : World) (h : Rd w g L k flt) :
    Calls Try.prog 65 #[.pointer (some ⟨g, 0, none⟩)] w fun r w' => r = .returned (.int .i64 (atF flt k)) ∧ w = w' := by
  have H2 := h.c2
  have H1 := h.c1
  obtain ⟨v, H3, hv⟩ := h.c3
  clear h
  rcases flt with _ | ⟨e, a⟩
  · obtain rfl := hv
    go_enter Try.func65, Try.ntmps65
    go_wp2_with fail
    refine (cnone_any g _ H2).mono ?_
    rintro r w1 ⟨rfl, rfl⟩
    go_wp2
    go_ret
    exact ⟨rfl, rfl⟩
  · obtain ⟨fb, rfl, _, K0, K1, _⟩ := hv
    go_enter Try.func65, Try.ntmps65
    go_wp2_with fail
    refine (cnone_any g _ H2).mono ?_
    rintro r w1 ⟨rfl, rfl⟩
    go_wp2
    go_ret
    exact ⟨rfl, rfl⟩
def leftF (flt : Option (Int × Int)) (k n : Nat) : Int := match flt with | some _ => 0 | none => (n : Int) - k
theorem cLeft_any (g k : Nat) (L : List Nat) (flt : Option (Int × Int)) (w : World) (h : Rd w g L k flt) (hL : L.length < 1099511627776) :
    Calls Try.prog 92 #[.pointer (some ⟨g, 0, none⟩)] w fun r w' => r = .returned (.int .i64 (leftF flt k L.length)) ∧ Ext w w' := by
  have H2 := h.c2
  have H1 := h.c1
  obtain ⟨A, c, H0, _⟩ := h.b
  obtain ⟨v, H3, hv⟩ := h.c3
  have hle := h.le
  clear h
  generalize L.length = N at *
  rcases flt with _ | ⟨e, a⟩
  · obtain rfl := hv
    have eq1 : IntKind.i64.wrap ((N : Int) - k) = N - k := IntWalk.i64_in _ (by omega)
    go_enter Try.func92, Try.ntmps92
    go_wp2_with fail
    refine (cnone_any g _ H2).mono ?_
    rintro r w1 ⟨rfl, rfl⟩
    go_wp2_with fail
    go_quiet (fail)
    go_wp2
    go_ret
    exact ⟨rfl, (Ext.refl _).drewN _⟩
  · obtain ⟨fb, rfl, _, K0, K1, _⟩ := hv
    go_enter Try.func92, Try.ntmps92
    go_wp2_with fail
    refine (cnone_any g _ H2).mono ?_
    rintro r w1 ⟨rfl, rfl⟩
    go_wp2
    go_ret
    exact ⟨rfl, Ext.refl _⟩
def endF (flt : Option (Int × Int)) (k n : Nat) : Int × Int := match flt with | some x => x | none => if k < n then (4, k) else (0, 0)
theorem cEnd_any (g k : Nat) (L : List Nat) (flt : Option (Int × Int)) (w : World) (h : Rd w g L k flt) (hL : L.length < 1099511627776) :
    Calls Try.prog 70 #[.pointer (some ⟨g, 0, none⟩)] w fun r w' => r = .returned (.agg #[.int .i64 (endF flt k L.length).1, .int .i64 (endF flt k L.length).2]) ∧ Ext w w' := by
  have hb := (Below.refl w.heap.size w).alloc (Nat.le_refl _) (.cells #[.int .i64 0, .int .i64 0] 60)
  have h' := h.keep hb
  have H2 := h'.c2
  have H1 := h'.c1
  obtain ⟨A, c, H0, _⟩ := h'.b
  obtain ⟨v, H3, hv⟩ := h'.c3
  have hle := h.le
  clear h h' hb
  generalize L.length = N at *
  rcases flt with _ | ⟨e, a⟩
  · obtain rfl := hv
    by_cases hk : k < N
    · rw [show endF none k N = (4, (k : Int)) from if_pos hk]
      have hd : decide (k < N) = true := decide_eq_true hk
      have hd2 : decide ((k : Int) < (N : Int)) = true := decide_eq_true (by omega)
      go_enter Try.func70, Try.ntmps70
      go_wp2_with fail
      refine (cnone_any g _ H2).mono ?_
      rintro r w1 ⟨rfl, rfl⟩
      go_wp2_with fail
      go_quiet (fail)
      go_wp2
      refine bodyPost_ret (v := .agg #[.int .i64 4, .int .i64 (k : Int)]) (by simp [results, Try.results70, go_sem]; try rfl) rfl ⟨rfl, ?_⟩
      exact (by repeat (first | assumption | exact Ext.refl _ | refine Ext.drew ?_ | refine Ext.drewN ?_ _ | refine Ext.alloc ?_ _ | refine Ext.setCell ?_ (by first | omega | (simp; done) | (simp; omega)) _ | refine Ext.trans ?_ (by assumption)))
    · rw [show endF none k N = (0, 0) from if_neg hk]
      have hd : decide (k < N) = false := decide_eq_false hk
      have hd2 : decide ((k : Int) < (N : Int)) = false := decide_eq_false (by omega)
      go_enter Try.func70, Try.ntmps70
      go_wp2_with fail
      refine (cnone_any g _ H2).mono ?_
      rintro r w1 ⟨rfl, rfl⟩
      go_wp2_with fail
      go_quiet (fail)
      go_wp2
      refine bodyPost_ret (v := .agg #[.int .i64 0, .int .i64 0]) (by simp [results, Try.results70, go_sem]; try rfl) rfl ⟨rfl, ?_⟩
      exact (by repeat (first | assumption | exact Ext.refl _ | refine Ext.drew ?_ | refine Ext.drewN ?_ _ | refine Ext.alloc ?_ _ | refine Ext.setCell ?_ (by first | omega | (simp; done) | (simp; omega)) _ | refine Ext.trans ?_ (by assumption)))
  · obtain ⟨fb, rfl, _, K0, K1, _⟩ := hv
    go_enter Try.func70, Try.ntmps70
    go_wp2_with fail
    refine (cnone_any g _ H2).mono ?_
    rintro r w1 ⟨rfl, rfl⟩
    go_wp2
    refine bodyPost_ret (v := .agg #[.int .i64 e, .int .i64 a]) (by simp [results, Try.results70, go_sem]; try rfl) rfl ⟨rfl, ?_⟩
    exact (by repeat (first | assumption | exact Ext.refl _ | refine Ext.drew ?_ | refine Ext.drewN ?_ _ | refine Ext.alloc ?_ _ | refine Ext.setCell ?_ (by first | omega | (simp; done) | (simp; omega)) _ | refine Ext.trans ?_ (by assumption)))
end Go.Proofs.Ytnbeejgppooamaa
