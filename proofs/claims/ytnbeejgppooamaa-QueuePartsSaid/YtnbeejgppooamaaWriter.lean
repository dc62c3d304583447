/- codec's Writer: its methods over a writer that lies in memory. Conditions stand in each lemma. -/
import Derived.Test.YtnbeejgppooamaaPut
import Derived.Test.YtnbeejgppooamaaMem2
import Derived.Test.YtnbeejgppooamaaOpen
import Derived.Deep.QuietTactic
import Derived.BigQuiet
import Derived.IntWalk
import Derived.Lib.SliceRun
set_option linter.unusedVariables false
set_option linter.unusedSimpArgs false
namespace Go.Proofs.Ytnbeejgppooamaa
open Go.RowKit

/-- a writer lies at block g: its limit, its error, what was written (in a row beyond g) -/
structure Wr (w : World) (g : Nat) (lim err : Int) (L : List Nat) : Prop where
  b : ∃ A c, w.cell? ⟨g, 0, none⟩ = some (.slice A L.length c) ∧ w.ownsRow (g + 1) 5 1 (.slice A L.length c) L.length (by_ L)
  c1 : w.cell? ⟨g, 1, none⟩ = some (.int .i64 lim)
  c2 : w.cell? ⟨g, 2, none⟩ = some (.bool true)
  c3 : w.cell? ⟨g, 3, none⟩ = some (.int .i64 err)
  f0 : w.frozen? ⟨g, 0, none⟩ = false
  f3 : w.frozen? ⟨g, 3, none⟩ = false
  lt : g < w.heap.size
  short : L.length ≤ 1048576
  l0 : 0 ≤ lim
  l1 : lim ≤ 1048576
theorem Wr.keep {w w' : World} {g : Nat} {lim err : Int} {L : List Nat} (h : Wr w g lim err L) (hb : Below w.heap.size w w') : Wr w' g lim err L := by
  obtain ⟨A, c, h0, h1⟩ := h.b
  have cl : ∀ o, w'.cell? ⟨g, o, none⟩ = w.cell? ⟨g, o, none⟩ := fun o => hb.cell (p := ⟨g, o, none⟩) h.lt
  have fl : ∀ o, w'.frozen? ⟨g, o, none⟩ = w.frozen? ⟨g, o, none⟩ := fun o => hb.frozen (p := ⟨g, o, none⟩) h.lt
  have hs := hb.size
  refine ⟨⟨A, c, (cl 0).trans h0, ?_⟩, (cl 1).trans h.c1, (cl 2).trans h.c2, (cl 3).trans h.c3, (fl 0).trans h.f0, (fl 3).trans h.f3, by have := h.lt; omega, h.short, h.l0, h.l1⟩
  refine ⟨h1.1, ?_⟩
  rcases h1.2 with h2 | ⟨q, cap, cur, e, hq, hq2, rest⟩
  · exact .inl h2
  · exact .inr ⟨q, cap, cur, e, hq, (hb.block q (Array.getElem?_eq_some_iff.1 hq2).1).trans hq2, rest⟩
theorem cstate_any (g : Nat) (e : Int) (w : World) (h2 : w.cell? ⟨g, 2, none⟩ = some (.bool true)) (h3 : w.cell? ⟨g, 3, none⟩ = some (.int .i64 e)) :
    Calls Try.prog 82 #[.pointer (some ⟨g, 0, none⟩)] w fun r w' => r = .returned (.int .i64 e) ∧ w = w' := by
  go_enter Try.func82, Try.ntmps82
  go_wp2
  go_ret
  exact ⟨rfl, rfl⟩
theorem cadd_err (g : Nat) (lim e : Int) (L : List Nat) (v : Value) (w : World) (h : Wr w g lim e L) (he : ¬ e = 0) :
    Calls Try.prog 83 #[.pointer (some ⟨g, 0, none⟩), v] w fun r w' => r = .returned (.int .i64 e) ∧ w = w' := by
  have H2 := h.c2
  have H3 := h.c3
  have hef : (e == 0) = false := beq_false_of_ne he
  clear h he
  go_enter Try.func83, Try.ntmps83
  go_wp2_with fail
  refine (cstate_any g e _ H2 H3).mono ?_
  rintro r w1 ⟨rfl, rfl⟩
  go_wp2
  go_ret
  exact ⟨rfl, rfl⟩
theorem Wr.drewN {w : World} {g : Nat} {lim err : Int} {L : List Nat} (h : Wr w g lim err L) (n : Nat) : Wr (w.drewN n) g lim err L := h.keep (below_drewN (Below.refl _ _) n)
theorem Wr.setErr {w : World} {g : Nat} {lim err : Int} {L : List Nat} (h : Wr w g lim err L) (e : Int) : Wr (w.setCell ⟨g, 3, none⟩ (.int .i64 e)) g lim e L := by
  obtain ⟨A, c, h0, h1⟩ := h.b
  have c1 := h.c1
  have c2 := h.c2
  have c3 := h.c3
  have f0 := h.f0
  have f3 := h.f3
  exact ⟨⟨A, c, by simp [go_sem, h0], ownsRow_setCell_below h1 (by simp) _⟩, by simp [go_sem, c1], by simp [go_sem, c2], by simp [go_sem, c3], by simp [go_sem, f0], by simp [go_sem, f3], by simpa using h.lt, h.short, h.l0, h.l1⟩
theorem by_one {l : List Nat} : ∀ u ∈ by_ l, u.oneCell' = true := by
  intro u hu
  unfold by_ at hu
  obtain ⟨x, _, rfl⟩ := List.mem_map.1 hu
  rfl
theorem by_append (a b : List Nat) : by_ a ++ by_ b = by_ (a ++ b) := by simp [by_]
set_option maxHeartbeats 1000000 in
theorem cadd_long (g : Nat) (lim : Int) (L : List Nat) (B : Option Addr) (m d : Nat) (w : World) (h : Wr w g lim 0 L) (hm : m ≤ 1048576) (hl : lim - L.length < m) :
    Calls Try.prog 83 #[.pointer (some ⟨g, 0, none⟩), .slice B m d] w fun r w' => r = .returned (.int .i64 4) ∧ Wr w' g lim 4 L ∧ Below g w w' := by
  have H2 := h.c2
  have H3 := h.c3
  obtain ⟨A, c, H0, hown⟩ := h.b
  have H1 := h.c1
  have F3 := h.f3
  have l0 := h.l0
  have l1 := h.l1
  have l2 := h.short
  have HH := Lib.hid h
  have hln : (L.length : Int) ≤ 1048576 := by omega
  have hmn : (m : Int) ≤ 1048576 := by omega
  have e1 : decide (lim - (L.length : Int) < (m : Int)) = true := by simpa using hl
  clear hown h hl
  generalize hLn : L.length = N at *
  replace hLn := Lib.hid hLn
  have eq1 : IntKind.i64.wrap (lim - (N : Int)) = lim - N := IntWalk.i64_in _ (by omega)
  go_enter Try.func83, Try.ntmps83
  go_wp2_with fail
  refine (cstate_any g 0 _ H2 H3).mono ?_
  rintro r w1 ⟨rfl, rfl⟩
  go_wp2_with fail
  go_quiet (fail)
  go_wp2
  go_ret
  exact ⟨rfl, (HH.out.drewN _).setErr 4, (below_drewN (Below.refl _ _) _).setCell (p := ⟨g, 3, none⟩) (Nat.le_refl _) _⟩
set_option maxHeartbeats 1000000 in
theorem cadd_ok (g : Nat) (lim : Int) (L bl : List Nat) (B : Option Addr) (m d : Nat) (w : World) (h : Wr w g lim 0 L) (hS : Sl w 1 B m d (by_ bl)) (hl : ¬ lim - L.length < m) :
    Calls Try.prog 83 #[.pointer (some ⟨g, 0, none⟩), .slice B m d] w fun r w' => r = .returned (.int .i64 0) ∧ Wr w' g lim 0 (L ++ bl) ∧ Below g w w' := by
  obtain ⟨i0, hi, hz0, hz1, hz2⟩ := info_parts u8_info
  have hbm : bl.length = m := by have := hS.len; rw [by_len] at this; omega
  have H2 := h.c2
  have H3 := h.c3
  obtain ⟨A, c, H0, hown⟩ := h.b
  have H1 := h.c1
  have F0 := h.f0
  have l0 := h.l0
  have l1 := h.l1
  have l2 := h.short
  have lt := h.lt
  have HH := Lib.hid h
  have HO := Lib.hid hown
  have HS := Lib.hid hS
  have hln : (L.length : Int) ≤ 1048576 := by omega
  have hmn : (m : Int) ≤ 1048576 := by omega
  have e1 : decide (lim - (L.length : Int) < (m : Int)) = false := decide_eq_false hl
  have hbm := Lib.hid hbm
  have hle : (L.length : Int) + m ≤ lim := by omega
  clear h hown hl hS
  generalize hLn : L.length = N at *
  replace hLn := Lib.hid hLn
  have eq1 : IntKind.i64.wrap (lim - (N : Int)) = lim - N := IntWalk.i64_in _ (by omega)
  go_enter Try.func83, Try.ntmps83
  go_wp2_with fail
  refine (cstate_any g 0 _ H2 H3).mono ?_
  rintro r w1 ⟨rfl, rfl⟩
  go_wp2_with fail
  go_quiet (fail)
  go_wp2_with (at_builtin; refine wpList_append_sl (w.drewN nq) rfl _ _ 56 rfl (g + 1) 5 i0 (.int .u8 0) 1 1 Try.underlying56 hi hz0 hz1 hz2 rfl (by decide) _ N (by_ L) (by rfl) HO.out B m d (by_ bl) (by rfl) (HS.out.ext ((Ext.refl _).drewN _)) by_one (by omega) (by decide) (by simp; omega) ?_; intro v1 w1 hown1 hb1; obtain ⟨A1, c1, rfl, s1⟩ := own_parts hown1; have q0 : w1.cell? ⟨g, 0, none⟩ = some (.slice A N c) := (hb1.cell (p := ⟨g, 0, none⟩) (by simp)).trans H0; have q1 : w1.frozen? ⟨g, 0, none⟩ = false := (hb1.frozen (p := ⟨g, 0, none⟩) (by simp)).trans F0; have HB := Lib.hid hb1; have HW := Lib.hid hown1; clear hb1 hown1 s1)
  go_ret
  refine ⟨rfl, ?_, ?_⟩
  · have hb := HB.out
    have hh := HH.out
    have eL : (L ++ bl).length = N + m := by rw [List.length_append, hLn.out, hbm.out]
    have cl : ∀ o, w1.cell? ⟨g, o, none⟩ = w.cell? ⟨g, o, none⟩ := fun o => hb.cell (p := ⟨g, o, none⟩) (by simp)
    have fl : ∀ o, w1.frozen? ⟨g, o, none⟩ = w.frozen? ⟨g, o, none⟩ := fun o => hb.frozen (p := ⟨g, o, none⟩) (by simp)
    have e0 := cl 0; have e1 := (cl 1).trans hh.c1; have e2 := (cl 2).trans hh.c2; have e3 := (cl 3).trans hh.c3
    have g0 := (fl 0).trans hh.f0; have g3 := (fl 3).trans hh.f3
    have hs := hb.size
    simp at hs
    refine ⟨⟨A1, c1, by rw [eL]; simp [go_sem, q0], ?_⟩, by simp [go_sem, e1], by simp [go_sem, e2], by simp [go_sem, e3], by simp [go_sem, g0], by simp [go_sem, g3], by simp; omega, by rw [eL]; omega, l0, l1⟩
    rw [eL, ← by_append]
    exact ownsRow_setCell_below HW.out (by simp) _
  · have hbg : Below g (w.drewN nq) w1 := HB.out.mono (Nat.le_succ g)
    exact ((below_drewN (Below.refl g w) nq).trans hbg).setCell (p := ⟨g, 0, none⟩) (Nat.le_refl _) _
/-- what an add makes of a writer: error, bytes -/
def wAddE (lim err : Int) (L b : List Nat) : Int := if err = 0 then (if lim - L.length < b.length then 4 else 0) else err
def wAddL (lim err : Int) (L b : List Nat) : List Nat := if wAddE lim err L b = 0 then L ++ b else L
theorem cadd_any (g : Nat) (lim e : Int) (L bl : List Nat) (B : Option Addr) (m d : Nat) (w : World) (h : Wr w g lim e L) (hS : Sl w 1 B m d (by_ bl)) (hm : m ≤ 1048576) :
    Calls Try.prog 83 #[.pointer (some ⟨g, 0, none⟩), .slice B m d] w fun r w' => r = .returned (.int .i64 (wAddE lim e L bl)) ∧ Wr w' g lim (wAddE lim e L bl) (wAddL lim e L bl) ∧ Below g w w' := by
  have hbm : bl.length = m := by have := hS.len; rw [by_len] at this; omega
  unfold wAddL wAddE
  rw [hbm]
  by_cases he : e = 0
  · subst he
    rw [if_pos rfl]
    by_cases hl : lim - L.length < m
    · rw [if_pos hl, if_neg (by decide)]
      exact cadd_long g lim L B m d w h hm hl
    · rw [if_neg hl, if_pos rfl]
      exact cadd_ok g lim L bl B m d w h hS hl
  · rw [if_neg he, if_neg he]
    refine (cadd_err g lim e L _ w h he).mono ?_
    rintro r w' ⟨h1, rfl⟩
    exact ⟨h1, h, Below.refl _ _⟩
theorem cWU_any (g : Nat) (lim e : Int) (L : List Nat) (N : Nat) (hN : N < 18446744073709551616) (w : World) (h : Wr w g lim e L) :
    Calls Try.prog 61 #[.pointer (some ⟨g, 0, none⟩), .int .u64 (N : Int)] w fun r w' => r = .returned (.int .i64 (wAddE lim e L (putL N))) ∧ Wr w' g lim (wAddE lim e L (putL N)) (wAddL lim e L (putL N)) ∧ Below g w w' := by
  have H := Lib.hid h
  have hp : (putL N).length ≤ 1048576 := by have := putL_len N 9 (by omega); omega
  have HP := Lib.hid hp
  obtain ⟨E, hE⟩ : ∃ E, E = wAddE lim e L (putL N) := ⟨_, rfl⟩
  obtain ⟨M, hM⟩ : ∃ M, M = wAddL lim e L (putL N) := ⟨_, rfl⟩
  rw [← hE, ← hM]
  have HE := Lib.hid (And.intro hE hM)
  clear h hE hM hp
  go_enter Try.func61, Try.ntmps61
  go_wp2_with fail
  refine (cPut_any N hN _).mono ?_
  rintro r w1 ⟨v, rfl, h1, hx1⟩
  obtain ⟨A1, c1, rfl, s1⟩ := own_parts h1
  have C := cadd_any g lim e L (putL N) A1 (putL N).length c1 w1 (H.out.keep hx1) s1 HP.out
  rw [← HE.out.1, ← HE.out.2] at C
  replace C := Lib.hid C
  have X1 := Lib.hid (And.intro hx1 H.out.lt)
  clear h1 s1 hx1
  go_wp2_with fail
  refine C.out.mono ?_
  rintro r w2 ⟨rfl, hw2, hb2⟩
  have W2 := Lib.hid (And.intro hw2 hb2)
  clear hw2 hb2 C
  go_wp2_with fail
  go_ret
  exact ⟨rfl, W2.out.1, (X1.out.1.mono (by have := X1.out.2; omega)).trans W2.out.2⟩
/-- what 'N' makes of a writer -/
def wNE (lim err : Int) (L : List Nat) (n : Int) : Int := if err = 0 then (if n < 0 then 3 else wAddE lim 0 L (putL n.toNat)) else err
def wNL (lim err : Int) (L : List Nat) (n : Int) : List Nat := if err = 0 then (if n < 0 then L else wAddL lim 0 L (putL n.toNat)) else L
theorem cWN_err (g : Nat) (lim e : Int) (L : List Nat) (n : Int) (h0 : -9223372036854775808 ≤ n) (h1 : n ≤ 9223372036854775807) (w : World) (h : Wr w g lim e L) (he : ¬ e = 0) :
    Calls Try.prog 59 #[.pointer (some ⟨g, 0, none⟩), .int .i64 n] w fun r w' => r = .returned (.int .i64 e) ∧ Wr w' g lim e L ∧ Below g w w' := by
  have H2 := h.c2
  have H3 := h.c3
  have hef : (e == 0) = false := beq_false_of_ne he
  obtain ⟨M, hM⟩ : ∃ M : Nat, IntKind.u64.wrap n = (M : Int) ∧ M < 18446744073709551616 := by
    refine ⟨(IntKind.u64.wrap n).toNat, ?_, ?_⟩ <;> rw [IntKind.wrap_u64] <;> omega
  have hne : (e != 0) = true := by simpa using he
  have C := cWU_any g lim e L M hM.2 w h
  have E1 : wAddE lim e L (putL M) = e := if_neg he
  have E2 : wAddL lim e L (putL M) = L := by unfold wAddL; rw [E1, if_neg he]
  rw [E1, E2, ← hM.1] at C
  replace C := Lib.hid C
  clear h he E1 E2 hM
  go_enter Try.func59, Try.ntmps59
  go_wp2_with fail
  refine (cstate_any g e _ H2 H3).mono ?_
  rintro r w1 ⟨rfl, rfl⟩
  go_wp2_with fail
  refine C.out.mono ?_
  rintro r w2 ⟨rfl, hw2, hb2⟩
  have W2 := Lib.hid (And.intro hw2 hb2)
  clear hw2 hb2 C
  go_wp2_with fail
  go_ret
  exact ⟨rfl, W2.out.1, W2.out.2⟩
theorem cWN_neg (g : Nat) (lim : Int) (L : List Nat) (n : Int) (h0 : n < 0) (w : World) (h : Wr w g lim 0 L) :
    Calls Try.prog 59 #[.pointer (some ⟨g, 0, none⟩), .int .i64 n] w fun r w' => r = .returned (.int .i64 3) ∧ Wr w' g lim 3 L ∧ Below g w w' := by
  have H2 := h.c2
  have H3 := h.c3
  have F3 := h.f3
  have HH := Lib.hid h
  have hd : decide (0 ≤ n) = false := decide_eq_false (by omega)
  clear h
  go_enter Try.func59, Try.ntmps59
  go_wp2_with fail
  refine (cstate_any g 0 _ H2 H3).mono ?_
  rintro r w1 ⟨rfl, rfl⟩
  go_wp2
  go_ret
  exact ⟨rfl, HH.out.setErr 3, (Below.refl _ _).setCell (p := ⟨g, 3, none⟩) (Nat.le_refl _) _⟩
theorem cWN_pos (g : Nat) (lim : Int) (L : List Nat) (N : Nat) (hN : N < 9223372036854775808) (w : World) (h : Wr w g lim 0 L) :
    Calls Try.prog 59 #[.pointer (some ⟨g, 0, none⟩), .int .i64 (N : Int)] w fun r w' => r = .returned (.int .i64 (wAddE lim 0 L (putL N))) ∧ Wr w' g lim (wAddE lim 0 L (putL N)) (wAddL lim 0 L (putL N)) ∧ Below g w w' := by
  have H2 := h.c2
  have H3 := h.c3
  have C := Lib.hid (cWU_any g lim 0 L N (by omega) w h)
  have hd : decide (0 ≤ (N : Int)) = true := decide_eq_true (by omega)
  have hN2 : (N : Int) < 9223372036854775808 := by omega
  generalize wAddE lim 0 L (putL N) = E at C
  generalize wAddL lim 0 L (putL N) = M at C
  clear h hN
  go_enter Try.func59, Try.ntmps59
  go_wp2_with fail
  refine (cstate_any g 0 _ H2 H3).mono ?_
  rintro r w1 ⟨rfl, rfl⟩
  go_wp2_with fail
  refine C.out.mono ?_
  rintro r w2 ⟨rfl, hw2, hb2⟩
  have W2 := Lib.hid (And.intro hw2 hb2)
  clear hw2 hb2 C
  go_wp2_with fail
  go_ret
  exact ⟨rfl, W2.out.1, W2.out.2⟩
theorem cWN_any (g : Nat) (lim e : Int) (L : List Nat) (n : Int) (h0 : -9223372036854775808 ≤ n) (h1 : n ≤ 9223372036854775807) (w : World) (h : Wr w g lim e L) :
    Calls Try.prog 59 #[.pointer (some ⟨g, 0, none⟩), .int .i64 n] w fun r w' => r = .returned (.int .i64 (wNE lim e L n)) ∧ Wr w' g lim (wNE lim e L n) (wNL lim e L n) ∧ Below g w w' := by
  unfold wNE wNL
  by_cases he : e = 0
  · subst he
    rw [if_pos rfl, if_pos rfl]
    by_cases hn : n < 0
    · rw [if_pos hn, if_pos hn]
      exact cWN_neg g lim L n hn w h
    · rw [if_neg hn, if_neg hn]
      obtain ⟨N, rfl⟩ : ∃ N : Nat, n = N := ⟨n.toNat, by omega⟩
      rw [Int.toNat_natCast]
      exact cWN_pos g lim L N (by omega) w h
  · rw [if_neg he, if_neg he]
    exact cWN_err g lim e L n h0 h1 w h he
set_option maxRecDepth 100000 in
theorem cNewWriter_any (lim : Int) (h0 : 0 ≤ lim) (h1 : lim ≤ 1048576) (w : World) :
    Calls Try.prog 58 #[.int .i64 lim] w fun r w' => r = .returned (.tuple #[.pointer (some ⟨w.heap.size, 0, none⟩), .int .i64 0]) ∧ Wr w' w.heap.size lim 0 [] ∧ Ext w w' := by
  have hn : ¬ lim < 0 := by omega
  have hm : ¬ (1048576 : Int) < lim := by omega
  go_enter Try.func58, Try.ntmps58
  go_wp2
  go_ret2
  exact ⟨rfl, ⟨⟨none, 0, by simp [go_sem], World.ownsRow_nil _ _ _ _⟩, by simp [go_sem], by simp [go_sem], by simp [go_sem], by simp [go_sem], by simp [go_sem], by simp, by simp, h0, h1⟩, (by repeat (first | assumption | exact Ext.refl _ | refine Ext.drew ?_ | refine Ext.drewN ?_ _ | refine Ext.alloc ?_ _ | refine Ext.setCell ?_ (by first | omega | (simp; done) | (simp; omega)) _ | refine Ext.trans ?_ (by assumption)))⟩
set_option maxRecDepth 100000 in
theorem cClone_nil (w : World) :
    Calls Try.prog 85 #[.slice none 0 0] w fun r w' => r = .returned (.slice none 0 0) ∧ w = w' := by
  have q22 : ∀ (w : World) (a : Option Addr) (n c n' c' : Nat), (binOp .eql 56 (.slice a n c) (.slice none n' c')).run Try.prog w = .ok (.bool a.isNone) w := fun w a n c n' c' => Go.Lib.run_eql_slice_nil w _ _ a n c n' c' Try.underlying56
  go_enter Try.func85, Try.ntmps85
  go_wp2
  go_ret
  exact ⟨rfl, rfl⟩
set_option maxRecDepth 100000 in
theorem cClone_some (a : Addr) (n c : Nat) (L : List Nat) (w : World) (h : Sl w 1 (some a) n c (by_ L)) (hn : n < 1099511627776) :
    Calls Try.prog 85 #[.slice (some a) n c] w (ByRet L w) := by
  obtain ⟨i0, hi, hz0, hz1, hz2⟩ := info_parts u8_info
  have hL : L.length = n := by have := h.len; rw [by_len] at this; omega
  have HS := Lib.hid h
  have HL := Lib.hid hL
  clear h hL
  have q22 : ∀ (w : World) (a : Option Addr) (n c n' c' : Nat), (binOp .eql 56 (.slice a n c) (.slice none n' c')).run Try.prog w = .ok (.bool a.isNone) w := fun w a n c n' c' => Go.Lib.run_eql_slice_nil w _ _ a n c n' c' Try.underlying56
  go_enter Try.func85, Try.ntmps85
  go_wp2_with (at_builtin; refine wpList_append_sl (w.alloc (.cells #[] 5)) rfl _ _ 56 rfl w.heap.size 5 i0 (.int .u8 0) 1 1 Try.underlying56 hi hz0 hz1 hz2 rfl (by decide) _ 0 [] (by rfl) (own_empty w _ _) (some a) n c (by_ L) (by rfl) (HS.out.ext ((Ext.refl _).alloc _)) by_one (by omega) (by decide) (by simp) ?_; intro v1 w1 hown1 hb1; simp only [Nat.zero_add, List.nil_append] at hown1; have H := Lib.hid (show ByRet L w (.returned v1) w1 from ⟨v1, rfl, by rw [HL.out]; exact hown1, ((Ext.refl w).alloc (.cells #[] 5)).below hb1⟩); clear hown1 hb1)
  go_ret
  exact H.out
/-- bytes handed back, maybe none at all -/
theorem cClone_any (A : Option Addr) (c : Nat) (L : List Nat) (w : World) (h : Sl w 1 A L.length c (by_ L)) (hn : L.length < 1099511627776) (hnil : A = none → c = 0) :
    Calls Try.prog 85 #[.slice A L.length c] w (ByRet L w) := by
  rcases A with _ | a
  · have hc := hnil rfl
    subst hc
    have h0 : L.length = 0 := by
      rcases Nat.eq_zero_or_pos L.length with h0 | h0
      · exact h0
      · obtain ⟨_, _, hh, _⟩ := h.at_ h0; cases hh
    have hL : L = [] := List.eq_nil_of_length_eq_zero h0
    subst hL
    refine (cClone_nil w).mono ?_
    rintro e w' ⟨rfl, rfl⟩
    exact ⟨_, rfl, World.ownsRow_nil _ _ _ _, Ext.refl _⟩
  · exact cClone_some a L.length c L w h hn
/-- bytes and an error handed back -/
def ByErr (L : List Nat) (er : Int) (w : World) (e : Ending) (w' : World) : Prop := ∃ v, e = .returned (.tuple #[v, .int .i64 er]) ∧ w'.ownsRow w.heap.size 5 1 v L.length (by_ L) ∧ Ext w w'
theorem cDone_any (g : Nat) (lim e : Int) (L : List Nat) (w : World) (h : Wr w g lim e L) :
    Calls Try.prog 62 #[.pointer (some ⟨g, 0, none⟩)] w (ByErr (if e = 0 then L else []) e w) := by
  have H2 := h.c2
  have H3 := h.c3
  obtain ⟨A, c, H0, hown⟩ := h.b
  by_cases he : e = 0
  · subst he
    rw [if_pos rfl]
    have hs := Sl.own hown
    have hnil : A = none → c = 0 := by
      intro hA
      subst hA
      rcases hown.2 with ⟨h', _⟩ | ⟨g', cap, cur, h', _⟩
      · injection h'
      · injection h' with h1; cases h1
    have C := Lib.hid (cClone_any A c L w hs (by have := h.short; omega) hnil)
    clear h hown hs hnil
    go_enter Try.func62, Try.ntmps62
    go_wp2_with fail
    refine (cstate_any g 0 _ H2 H3).mono ?_
    rintro r w1 ⟨rfl, rfl⟩
    go_wp2_with fail
    refine C.out.mono ?_
    rintro r w1 ⟨v, rfl, h1, h2⟩
    have H := Lib.hid (show ByErr L 0 w (.returned (.tuple #[v, .int .i64 0])) w1 from ⟨v, rfl, h1, h2⟩)
    clear h1 h2 C
    go_wp2_with fail
    go_ret2
    exact H.out
  · rw [if_neg he]
    have hef : (e == 0) = false := beq_false_of_ne he
    have H : Hid (ByErr [] e w (.returned (.tuple #[.slice none 0 0, .int .i64 e])) w) := Lib.hid ⟨_, rfl, World.ownsRow_nil _ _ _ _, Ext.refl _⟩
    clear h hown he
    go_enter Try.func62, Try.ntmps62
    go_wp2_with fail
    refine (cstate_any g e _ H2 H3).mono ?_
    rintro r w1 ⟨rfl, rfl⟩
    go_wp2_with fail
    go_ret2
    exact H.out
end Go.Proofs.Ytnbeejgppooamaa
