/- What the law Qby rests on, part 4 of 8: WF, RefN, Low, Cod, StampT. Conditions stand in each lemma. -/
import Derived.WalkKit
import Derived.Deep.QuietTactic
import Derived.Deep.Draws
import Derived.Laws.OwnMore
import Derived.Laws.AppendOwn
import Derived.OwnWalk
import Derived.RangeFuncBox
import Derived.RangeFuncLeaves
import Derived.Shelf.Abstract
import Derived.OwnWalkIn
import Derived.TacticsInMore
import Derived.LoopNIn
import Derived.LoopIn
import Derived.Maps.AppendAt
import Derived.Test.YtnbeejgppooamaaGreatRows
import Derived.Lib.Hide
import Derived.Deep.Onto
import Derived.ProofKit
import Derived.ChangeOld
import Derived.OpenShut
import Derived.Deep.Slices
import Derived.BigQuiet
import Derived.IntWalk
import Derived.Lib.SliceRun
import Derived.Deep.LoopGhost
import Derived.WalkSpells
import Derived.WalkLawsBesides
import Derived.Deep.RegionHeld3
import Derived.Lib.SmallJoins
import Derived.ArgAppend
import Derived.Test.YtnbeejgppooamaaGreatShelf
import Derived.Test.YtnbeejgppooamaaGreatDivNorm
import Derived.Deep.DeepCutAuto
import Derived.Deep.CutBlock
import Derived.Shelf.Spec.BitsCarry
import Derived.Test.YtnbeejgppooamaaGreatFixRefMath
import Derived.Test.YtnbeejgppooamaaGreatFixDivideMath
import Derived.WalkMore
import Derived.Laws.StructEq
import Derived.Laws.BytesArg
import Derived.Test.YtnbeejgppooamaaGreatSlQby3
set_option linter.unusedVariables false
set_option linter.unusedSimpArgs false
namespace Go.Proofs.YtnbeejgppooamaaGreat
section
open Go.RowKit
/-- the blocks of a writer at block g whose slice lies in its cell o -/
def Sg (w : World) (g o : Nat) (k : Nat) : Prop := k = g ∨ ∃ n c, w.cell? ⟨g, o, none⟩ = some (.slice (some ⟨k, 0, none⟩) n c)
/-- of what was there only the writer's blocks may have turned, and its blocks are the old ones, or new -/
structure WF (g o : Nat) (w w' : World) : Prop where
  but : But (Sg w g o) w w'
  row : ∀ k, k < w.heap.size → Sg w' g o k → Sg w g o k
theorem Sg.congr {w w' : World} {g o : Nat} (h : w'.cell? ⟨g, o, none⟩ = w.cell? ⟨g, o, none⟩) {k : Nat} : Sg w' g o k ↔ Sg w g o k := by unfold Sg; rw [h]
theorem WF.same {g o : Nat} {w w' : World} (hb : But (Sg w g o) w w') (h : w'.cell? ⟨g, o, none⟩ = w.cell? ⟨g, o, none⟩) : WF g o w w' := ⟨hb, fun k _ hk => (Sg.congr h).1 hk⟩
theorem WF.refl (g o : Nat) (w : World) : WF g o w w := ⟨But.refl _ _, fun _ _ h => h⟩
theorem WF.trans {g o : Nat} {a b c : World} (h : WF g o a b) (k : WF g o b c) : WF g o a c :=
  ⟨⟨k.but.os.trans h.but.os, k.but.tape.trans h.but.tape, k.but.output.trans h.but.output, Nat.le_trans h.but.size k.but.size, fun i hi hs =>
    (k.but.block i (by have := h.but.size; omega) (fun hh => hs (h.row i hi hh))).trans (h.but.block i hi hs)⟩,
   fun i hi hk => h.row i hi (k.row i (by have := h.but.size; omega) hk)⟩
theorem WF.ofExt {g o : Nat} {w w' : World} (h : Ext w w') (hg : g < w.heap.size) : WF g o w w' := WF.same (But.ofExt h) (h.cells.1 g o hg)
/-- a writer's row is old -/
theorem Sg.lt {w : World} {g o : Nat} {A : Option Addr} {n c base : Nat} {L : List Nat} (hc : w.cell? ⟨g, o, none⟩ = some (.slice A n c)) (h : w.ownsRow base 5 1 (.slice A n c) n (by_ L)) (hg : g < w.heap.size) {k : Nat} (hk : Sg w g o k) : k < w.heap.size := by
  rcases hk with rfl | ⟨n', c', e⟩
  · exact hg
  · rw [hc] at e
    injection e with e
    injection e with e1
    subst e1
    exact (h.lt k rfl).2
theorem Wr.sg {w : World} {g : Nat} {lim e : Int} {L : List Nat} (h : Wr w g lim e L) {k : Nat} (hk : Sg w g 0 k) : g ≤ k ∧ k < w.heap.size := by
  obtain ⟨A, c, h0, h1⟩ := h.b
  refine ⟨?_, Sg.lt h0 h1 h.lt hk⟩
  rcases hk with rfl | ⟨n', c', e⟩
  · exact Nat.le_refl _
  · rw [h0] at e
    injection e with e
    injection e with e1
    subst e1
    have := (h1.lt k rfl).1
    omega
theorem RWr.sg {w : World} {g : Nat} {lim e : Int} {L : List Nat} (h : RWr w g lim e L) {k : Nat} (hk : Sg w g 1 k) : g ≤ k ∧ k < w.heap.size := by
  obtain ⟨A, c, h0, h1⟩ := h.b
  refine ⟨?_, Sg.lt h0 h1 h.lt hk⟩
  rcases hk with rfl | ⟨n', c', e⟩
  · exact Nat.le_refl _
  · rw [h0] at e
    injection e with e
    injection e with e1
    subst e1
    have := (h1.lt k rfl).1
    omega
set_option maxHeartbeats 1000000 in
theorem cadd_longF (g : Nat) (lim : Int) (L : List Nat) (B : Option Addr) (m d : Nat) (w : World) (h : Wr w g lim 0 L) (hm : m ≤ 1048576) (hl : lim - L.length < m) :
    Calls Tryz.prog 60 #[.pointer (some ⟨g, 0, none⟩), .slice B m d] w fun r w' => r = .returned (.int .i64 4) ∧ Wr w' g lim 4 L ∧ WF g 0 w w' := by
  have H2 := h.c2
  have H3 := h.c3
  obtain ⟨A, c, H0, hown⟩ := h.b
  have H1 := h.c1
  have F3 := h.f3
  have l0 := h.l0
  have l1 := h.l1
  have l2 := h.short
  have HH := Lib.hid h
  have hln : (L.length : Int) ≤ 1048576 := by omega
  have hmn : (m : Int) ≤ 1048576 := by omega
  have e1 : decide (lim - (L.length : Int) < (m : Int)) = true := by simpa using hl
  clear hown h hl
  generalize hLn : L.length = N at *
  replace hLn := Lib.hid hLn
  have eq1 : IntKind.i64.wrap (lim - (N : Int)) = lim - N := IntWalk.i64_in _ (by omega)
  go_enter Tryz.func60, Tryz.ntmps60
  go_wp2_with fail
  refine (cstate_any g 0 _ H2 H3).mono ?_
  rintro r w1 ⟨rfl, rfl⟩
  go_wp2_with fail
  go_quiet (fail)
  go_wp2
  go_ret
  exact ⟨rfl, (HH.out.drewN _).setErr 4, WF.same (((But.refl _ _).drewN _).setCell (p := ⟨g, 3, none⟩) (.inl rfl) _) (by simp [go_sem])⟩
set_option maxHeartbeats 1000000 in
theorem cadd_okF (g : Nat) (lim : Int) (L bl : List Nat) (B : Option Addr) (m d : Nat) (w : World) (h : Wr w g lim 0 L) (hS : Sl w 1 B m d (by_ bl)) (hl : ¬ lim - L.length < m) :
    Calls Tryz.prog 60 #[.pointer (some ⟨g, 0, none⟩), .slice B m d] w fun r w' => r = .returned (.int .i64 0) ∧ Wr w' g lim 0 (L ++ bl) ∧ WF g 0 w w' := by
  obtain ⟨i0, hi, hz0, hz1, hz2⟩ := info_parts u8_info
  have hbm : bl.length = m := by have := hS.len; rw [by_len] at this; omega
  have H2 := h.c2
  have H3 := h.c3
  obtain ⟨A, c, H0, hown⟩ := h.b
  have H1 := h.c1
  have F0 := h.f0
  have l0 := h.l0
  have l1 := h.l1
  have l2 := h.short
  have lt := h.lt
  have HH := Lib.hid h
  have HO := Lib.hid hown
  have HS := Lib.hid hS
  have hln : (L.length : Int) ≤ 1048576 := by omega
  have hmn : (m : Int) ≤ 1048576 := by omega
  have e1 : decide (lim - (L.length : Int) < (m : Int)) = false := decide_eq_false hl
  have hbm := Lib.hid hbm
  have hle : (L.length : Int) + m ≤ lim := by omega
  have hlt2 : g < (w.drewN 0).heap.size := h.lt
  clear h hown hl hS
  generalize hLn : L.length = N at *
  replace hLn := Lib.hid hLn
  have eq1 : IntKind.i64.wrap (lim - (N : Int)) = lim - N := IntWalk.i64_in _ (by omega)
  go_enter Tryz.func60, Tryz.ntmps60
  go_wp2_with fail
  refine (cstate_any g 0 _ H2 H3).mono ?_
  rintro r w1 ⟨rfl, rfl⟩
  go_wp2_with fail
  go_quiet (fail)
  go_wp2_with (at_builtin; refine wpList_append_slB (w.drewN nq) rfl _ _ 23 rfl (g + 1) 5 i0 (.int .u8 0) 1 1 Tryz.underlying23 hi hz0 hz1 hz2 rfl (by decide) _ N (by_ L) (by rfl) HO.out B m d (by_ bl) (by rfl) (HS.out.ext ((Ext.refl _).drewN _)) by_one (by omega) (by decide) (by simp; omega) ?_; intro v1 w1 hown1 hb1 hn1; have hgS : ¬ ((Value.slice A N c).ownBlock = some g) := (fun e => by have := (HO.out.lt g e).1; omega); obtain ⟨A1, c1, rfl, s1⟩ := own_parts hown1; have q0 : w1.cell? ⟨g, 0, none⟩ = some (.slice A N c) := hb1.has hgS H0; have q1 : w1.frozen? ⟨g, 0, none⟩ = false := (hb1.frozen hlt2 hgS).trans F0; have HB := Lib.hid (And.intro hb1 (And.intro hn1 hgS)); have HW := Lib.hid hown1; clear hb1 hown1 s1 hn1 hgS)
  go_ret
  refine ⟨rfl, ?_, ?_⟩
  · have hb := HB.out.1
    have hgS := HB.out.2.2
    have hh := HH.out
    have eL : (L ++ bl).length = N + m := by rw [List.length_append, hLn.out, hbm.out]
    have cl : ∀ o, w1.cell? ⟨g, o, none⟩ = w.cell? ⟨g, o, none⟩ := fun o => hb.cell hlt2 hgS
    have fl : ∀ o, w1.frozen? ⟨g, o, none⟩ = w.frozen? ⟨g, o, none⟩ := fun o => hb.frozen hlt2 hgS
    have e0 := cl 0; have e1 := (cl 1).trans hh.c1; have e2 := (cl 2).trans hh.c2; have e3 := (cl 3).trans hh.c3
    have g0 := (fl 0).trans hh.f0; have g3 := (fl 3).trans hh.f3
    have hs := hb.size
    simp at hs
    refine ⟨⟨A1, c1, by rw [eL]; simp [go_sem, q0], ?_⟩, by simp [go_sem, e1], by simp [go_sem, e2], by simp [go_sem, e3], by simp [go_sem, g0], by simp [go_sem, g3], by simp; omega, by rw [eL]; omega, l0, l1⟩
    rw [eL, ← by_append]
    exact ownsRow_setCell_below HW.out (by simp) _
  · have hb := HB.out.1
    have hgS := HB.out.2.2
    have hc0 : w1.cell? ⟨g, 0, none⟩ = w.cell? ⟨g, 0, none⟩ := hb.cell hlt2 hgS
    have hoff : ∀ k, (Value.slice A N c).ownBlock = some k → Sg w g 0 k := by
      intro k hk
      have h0 := H0
      rcases HO.out.2 with ⟨h1, _⟩ | ⟨q, cap, cur, h1, _⟩
      · rw [h1] at hk; cases hk
      · rw [h1] at hk h0
        injection hk with hk
        have hk2 : q = k := hk
        subst hk2
        exact .inr ⟨_, _, h0⟩
    refine ⟨?_, ?_⟩
    · exact (((But.refl _ w).drewN nq).trans (hb.mono fun k _ hk => hoff k hk)).setCell (p := ⟨g, 0, none⟩) (.inl rfl) _
    · intro k hk hs
      rcases hs with rfl | ⟨n', c', e⟩
      · exact .inl rfl
      · have e2 : (w1.setCell ⟨g, 0, none⟩ (.slice A1 (N + m) c1)).cell? ⟨g, 0, none⟩ = some (.slice A1 (N + m) c1) := by simp [go_sem, q0]
        rw [e2] at e
        injection e with e
        injection e with e1
        subst e1
        rcases HB.out.2.1 k rfl with h | h
        · exact hoff k h
        · simp at h; omega
theorem cadd_anyF (g : Nat) (lim e : Int) (L bl : List Nat) (B : Option Addr) (m d : Nat) (w : World) (h : Wr w g lim e L) (hS : Sl w 1 B m d (by_ bl)) (hm : m ≤ 1048576) :
    Calls Tryz.prog 60 #[.pointer (some ⟨g, 0, none⟩), .slice B m d] w fun r w' => r = .returned (.int .i64 (wAddE lim e L bl)) ∧ Wr w' g lim (wAddE lim e L bl) (wAddL lim e L bl) ∧ WF g 0 w w' := by
  have hbm : bl.length = m := by have := hS.len; rw [by_len] at this; omega
  unfold wAddL wAddE
  rw [hbm]
  by_cases he : e = 0
  · subst he
    rw [if_pos rfl]
    by_cases hl : lim - L.length < m
    · rw [if_pos hl, if_neg (by decide)]
      exact cadd_longF g lim L B m d w h hm hl
    · rw [if_neg hl, if_pos rfl]
      exact cadd_okF g lim L bl B m d w h hS hl
  · rw [if_neg he, if_neg he]
    refine (cadd_err g lim e L _ w h he).mono ?_
    rintro r w' ⟨h1, rfl⟩
    exact ⟨h1, h, WF.refl _ _ _⟩
theorem cWU_anyF (g : Nat) (lim e : Int) (L : List Nat) (N : Nat) (hN : N < 18446744073709551616) (w : World) (h : Wr w g lim e L) :
    Calls Tryz.prog 23 #[.pointer (some ⟨g, 0, none⟩), .int .u64 (N : Int)] w fun r w' => r = .returned (.int .i64 (wAddE lim e L (putL N))) ∧ Wr w' g lim (wAddE lim e L (putL N)) (wAddL lim e L (putL N)) ∧ WF g 0 w w' := by
  have H := Lib.hid h
  have hp : (putL N).length ≤ 1048576 := by have := putL_len N 9 (by omega); omega
  have HP := Lib.hid hp
  obtain ⟨E, hE⟩ : ∃ E, E = wAddE lim e L (putL N) := ⟨_, rfl⟩
  obtain ⟨M, hM⟩ : ∃ M, M = wAddL lim e L (putL N) := ⟨_, rfl⟩
  rw [← hE, ← hM]
  have HE := Lib.hid (And.intro hE hM)
  clear h hE hM hp
  go_enter Tryz.func23, Tryz.ntmps23
  go_wp2_with fail
  refine (cPut_any N hN _).mono ?_
  rintro r w1 ⟨v, rfl, h1, hx1⟩
  obtain ⟨A1, c1, rfl, s1⟩ := own_parts h1
  have C := cadd_anyF g lim e L (putL N) A1 (putL N).length c1 w1 (H.out.keep hx1) s1 HP.out
  rw [← HE.out.1, ← HE.out.2] at C
  replace C := Lib.hid C
  have X1 := Lib.hid (And.intro hx1 H.out.lt)
  clear h1 s1 hx1
  go_wp2_with fail
  refine C.out.mono ?_
  rintro r w2 ⟨rfl, hw2, hb2⟩
  have W2 := Lib.hid (And.intro hw2 hb2)
  clear hw2 hb2 C
  go_wp2_with fail
  go_ret
  exact ⟨rfl, W2.out.1, (WF.ofExt X1.out.1 X1.out.2).trans W2.out.2⟩
theorem cWN_errF (g : Nat) (lim e : Int) (L : List Nat) (n : Int) (h0 : -9223372036854775808 ≤ n) (h1 : n ≤ 9223372036854775807) (w : World) (h : Wr w g lim e L) (he : ¬ e = 0) :
    Calls Tryz.prog 21 #[.pointer (some ⟨g, 0, none⟩), .int .i64 n] w fun r w' => r = .returned (.int .i64 e) ∧ Wr w' g lim e L ∧ WF g 0 w w' := by
  have H2 := h.c2
  have H3 := h.c3
  have hef : (e == 0) = false := beq_false_of_ne he
  obtain ⟨M, hM⟩ : ∃ M : Nat, IntKind.u64.wrap n = (M : Int) ∧ M < 18446744073709551616 := by
    refine ⟨(IntKind.u64.wrap n).toNat, ?_, ?_⟩ <;> rw [IntKind.wrap_u64] <;> omega
  have hne : (e != 0) = true := by simpa using he
  have C := cWU_anyF g lim e L M hM.2 w h
  have E1 : wAddE lim e L (putL M) = e := if_neg he
  have E2 : wAddL lim e L (putL M) = L := by unfold wAddL; rw [E1, if_neg he]
  rw [E1, E2, ← hM.1] at C
  replace C := Lib.hid C
  clear h he E1 E2 hM
  go_enter Tryz.func21, Tryz.ntmps21
  go_wp2_with fail
  refine (cstate_any g e _ H2 H3).mono ?_
  rintro r w1 ⟨rfl, rfl⟩
  go_wp2_with fail
  refine C.out.mono ?_
  rintro r w2 ⟨rfl, hw2, hb2⟩
  have W2 := Lib.hid (And.intro hw2 hb2)
  clear hw2 hb2 C
  go_wp2_with fail
  go_ret
  exact ⟨rfl, W2.out.1, W2.out.2⟩
theorem cWN_negF (g : Nat) (lim : Int) (L : List Nat) (n : Int) (h0 : n < 0) (w : World) (h : Wr w g lim 0 L) :
    Calls Tryz.prog 21 #[.pointer (some ⟨g, 0, none⟩), .int .i64 n] w fun r w' => r = .returned (.int .i64 3) ∧ Wr w' g lim 3 L ∧ WF g 0 w w' := by
  have H2 := h.c2
  have H3 := h.c3
  have F3 := h.f3
  have HH := Lib.hid h
  have hd : decide (0 ≤ n) = false := decide_eq_false (by omega)
  clear h
  go_enter Tryz.func21, Tryz.ntmps21
  go_wp2_with fail
  refine (cstate_any g 0 _ H2 H3).mono ?_
  rintro r w1 ⟨rfl, rfl⟩
  go_wp2
  go_ret
  exact ⟨rfl, HH.out.setErr 3, WF.same ((But.refl _ _).setCell (p := ⟨g, 3, none⟩) (.inl rfl) _) (by simp [go_sem])⟩
theorem cWN_posF (g : Nat) (lim : Int) (L : List Nat) (N : Nat) (hN : N < 9223372036854775808) (w : World) (h : Wr w g lim 0 L) :
    Calls Tryz.prog 21 #[.pointer (some ⟨g, 0, none⟩), .int .i64 (N : Int)] w fun r w' => r = .returned (.int .i64 (wAddE lim 0 L (putL N))) ∧ Wr w' g lim (wAddE lim 0 L (putL N)) (wAddL lim 0 L (putL N)) ∧ WF g 0 w w' := by
  have H2 := h.c2
  have H3 := h.c3
  have C := Lib.hid (cWU_anyF g lim 0 L N (by omega) w h)
  have hd : decide (0 ≤ (N : Int)) = true := decide_eq_true (by omega)
  have hN2 : (N : Int) < 9223372036854775808 := by omega
  generalize wAddE lim 0 L (putL N) = E at C
  generalize wAddL lim 0 L (putL N) = M at C
  clear h hN
  go_enter Tryz.func21, Tryz.ntmps21
  go_wp2_with fail
  refine (cstate_any g 0 _ H2 H3).mono ?_
  rintro r w1 ⟨rfl, rfl⟩
  go_wp2_with fail
  refine C.out.mono ?_
  rintro r w2 ⟨rfl, hw2, hb2⟩
  have W2 := Lib.hid (And.intro hw2 hb2)
  clear hw2 hb2 C
  go_wp2_with fail
  go_ret
  exact ⟨rfl, W2.out.1, W2.out.2⟩
theorem cWN_anyF (g : Nat) (lim e : Int) (L : List Nat) (n : Int) (h0 : -9223372036854775808 ≤ n) (h1 : n ≤ 9223372036854775807) (w : World) (h : Wr w g lim e L) :
    Calls Tryz.prog 21 #[.pointer (some ⟨g, 0, none⟩), .int .i64 n] w fun r w' => r = .returned (.int .i64 (wNE lim e L n)) ∧ Wr w' g lim (wNE lim e L n) (wNL lim e L n) ∧ WF g 0 w w' := by
  unfold wNE wNL
  by_cases he : e = 0
  · subst he
    rw [if_pos rfl, if_pos rfl]
    by_cases hn : n < 0
    · rw [if_pos hn, if_pos hn]
      exact cWN_negF g lim L n hn w h
    · rw [if_neg hn, if_neg hn]
      obtain ⟨N, rfl⟩ : ∃ N : Nat, n = N := ⟨n.toNat, by omega⟩
      rw [Int.toNat_natCast]
      exact cWN_posF g lim L N (by omega) w h
  · rw [if_neg he, if_neg he]
    exact cWN_errF g lim e L n h0 h1 w h he
set_option maxHeartbeats 1000000 in
theorem rWAdd_longF (g : Nat) (lim : Int) (L : List Nat) (B : Option Addr) (m d : Nat) (w : World) (h : RWr w g lim 0 L) (hm : m ≤ 1048576) (hl : lim - L.length < m) :
    Calls Tryz.prog 63 #[.pointer (some ⟨g, 0, none⟩), .slice B m d] w fun r w' => r = .returned (.int .i64 4) ∧ RWr w' g lim 4 L ∧ WF g 1 w w' := by
  have H2 := h.c2
  have H0 := h.c0
  obtain ⟨A, c, H1, hown⟩ := h.b
  have F2 := h.f2
  have l2 := h.short
  have HH := Lib.hid h
  clear hown h
  generalize L.length = N at *
  have e1 : decide (lim < (N : Int) + (m : Int)) = true := decide_eq_true (by omega)
  have eq1 : IntKind.i64.wrap ((N : Int) + m) = N + m := IntWalk.i64_in _ (by omega)
  go_enter Tryz.func63, Tryz.ntmps63
  go_wp2_with fail
  go_quiet (fail)
  go_wp2
  go_ret
  exact ⟨rfl, (HH.out.keep ((Ext.refl _).drewN _)).setErr 4, WF.same (((But.refl _ _).drewN _).setCell (p := ⟨g, 2, none⟩) (.inl rfl) _) (by simp [go_sem])⟩
set_option maxHeartbeats 1000000 in
theorem rWAdd_okF (g : Nat) (lim : Int) (L bl : List Nat) (B : Option Addr) (m d : Nat) (w : World) (h : RWr w g lim 0 L) (hS : Sl w 1 B m d (by_ bl)) (hl : ¬ lim - L.length < m) :
    Calls Tryz.prog 63 #[.pointer (some ⟨g, 0, none⟩), .slice B m d] w fun r w' => r = .returned (.int .i64 0) ∧ RWr w' g lim 0 (L ++ bl) ∧ WF g 1 w w' := by
  obtain ⟨i0, hi, hz0, hz1, hz2⟩ := info_parts u8_info
  have hbm : bl.length = m := by have := hS.len; rw [by_len] at this; omega
  have H2 := h.c2
  have H0 := h.c0
  obtain ⟨A, c, H1, hown⟩ := h.b
  have F1 := h.f1
  have l0 := h.l0
  have l1 := h.l1
  have l2 := h.short
  have lt := h.lt
  have HH := Lib.hid h
  have HO := Lib.hid hown
  have HS := Lib.hid hS
  have hmn : (m : Int) ≤ 1048576 := by omega
  have hbm := Lib.hid hbm
  have hlt2 : g < (w.drewN 0).heap.size := h.lt
  clear h hown hS
  generalize hLn : L.length = N at *
  replace hLn := Lib.hid hLn
  have hln : (N : Int) ≤ 1048576 := by omega
  have hle : (N : Int) + m ≤ lim := by omega
  have e1 : decide (lim < (N : Int) + (m : Int)) = false := decide_eq_false (by omega)
  have eq1 : IntKind.i64.wrap ((N : Int) + m) = N + m := IntWalk.i64_in _ (by omega)
  clear hl
  go_enter Tryz.func63, Tryz.ntmps63
  go_wp2_with fail
  go_quiet (fail)
  clear eq1
  go_wp2_with (at_builtin; refine wpList_append_slB (w.drewN nq) rfl _ _ 23 rfl (g + 1) 5 i0 (.int .u8 0) 1 1 Tryz.underlying23 hi hz0 hz1 hz2 rfl (by decide) _ N (by_ L) (by rfl) HO.out B m d (by_ bl) (by rfl) (HS.out.ext ((Ext.refl _).drewN _)) by_one (by omega) (by decide) (by simp; omega) ?_; intro v1 w1 hown1 hb1 hn1; have hgS : ¬ ((Value.slice A N c).ownBlock = some g) := (fun e => by have := (HO.out.lt g e).1; omega); obtain ⟨A1, c1, rfl, s1⟩ := own_parts hown1; have q0 : w1.cell? ⟨g, 1, none⟩ = some (.slice A N c) := hb1.has hgS H1; have q1 : w1.frozen? ⟨g, 1, none⟩ = false := (hb1.frozen hlt2 hgS).trans F1; have q2 : w1.cell? ⟨g, 2, none⟩ = some (.int .i64 0) := hb1.has hgS H2; have HB := Lib.hid (And.intro hb1 (And.intro hn1 hgS)); have HW := Lib.hid hown1; clear hb1 hown1 s1 hn1 hgS)
  go_ret
  refine ⟨rfl, ?_, ?_⟩
  · have hb := HB.out.1
    have hgS := HB.out.2.2
    have hh := HH.out
    have eL : (L ++ bl).length = N + m := by rw [List.length_append, hLn.out, hbm.out]
    have cl : ∀ o, w1.cell? ⟨g, o, none⟩ = w.cell? ⟨g, o, none⟩ := fun o => hb.cell hlt2 hgS
    have fl : ∀ o, w1.frozen? ⟨g, o, none⟩ = w.frozen? ⟨g, o, none⟩ := fun o => hb.frozen hlt2 hgS
    have e1 := cl 1; have e0 := (cl 0).trans hh.c0; have e2 := (cl 2).trans hh.c2
    have g1 := (fl 1).trans hh.f1; have g2 := (fl 2).trans hh.f2
    have hs := hb.size
    simp at hs
    refine ⟨⟨A1, c1, by rw [eL]; simp [go_sem, q0], ?_⟩, by simp [go_sem, e0], by simp [go_sem, e2], by simp [go_sem, g1], by simp [go_sem, g2], by simp; omega, by rw [eL]; omega, l0, l1⟩
    rw [eL, ← by_append]
    exact ownsRow_setCell_below HW.out (by simp) _
  · have hb := HB.out.1
    have hgS := HB.out.2.2
    have hc0 : w1.cell? ⟨g, 1, none⟩ = w.cell? ⟨g, 1, none⟩ := hb.cell hlt2 hgS
    have hoff : ∀ k, (Value.slice A N c).ownBlock = some k → Sg w g 1 k := by
      intro k hk
      have h0 := H1
      rcases HO.out.2 with ⟨h1, _⟩ | ⟨q, cap, cur, h1, _⟩
      · rw [h1] at hk; cases hk
      · rw [h1] at hk h0
        injection hk with hk
        have hk2 : q = k := hk
        subst hk2
        exact .inr ⟨_, _, h0⟩
    refine ⟨?_, ?_⟩
    · exact (((But.refl _ w).drewN nq).trans (hb.mono fun k _ hk => hoff k hk)).setCell (p := ⟨g, 1, none⟩) (.inl rfl) _
    · intro k hk hs
      rcases hs with rfl | ⟨n', c', e⟩
      · exact .inl rfl
      · have e2 : (w1.setCell ⟨g, 1, none⟩ (.slice A1 (N + m) c1)).cell? ⟨g, 1, none⟩ = some (.slice A1 (N + m) c1) := by simp [go_sem, q0]
        rw [e2] at e
        injection e with e
        injection e with e1
        subst e1
        rcases HB.out.2.1 k rfl with h | h
        · exact hoff k h
        · simp at h; omega
theorem rWAdd_anyF (g : Nat) (lim e : Int) (L bl : List Nat) (B : Option Addr) (m d : Nat) (w : World) (h : RWr w g lim e L) (hS : Sl w 1 B m d (by_ bl)) (hm : m ≤ 1048576) :
    Calls Tryz.prog 63 #[.pointer (some ⟨g, 0, none⟩), .slice B m d] w fun r w' => r = .returned (.int .i64 (wAddE lim e L bl)) ∧ RWr w' g lim (wAddE lim e L bl) (wAddL lim e L bl) ∧ WF g 1 w w' := by
  have hbm : bl.length = m := by have := hS.len; rw [by_len] at this; omega
  unfold wAddL wAddE
  rw [hbm]
  by_cases he : e = 0
  · subst he
    rw [if_pos rfl]
    by_cases hl : lim - L.length < m
    · rw [if_pos hl, if_neg (by decide)]
      exact rWAdd_longF g lim L B m d w h hm hl
    · rw [if_neg hl, if_pos rfl]
      exact rWAdd_okF g lim L bl B m d w h hS hl
  · rw [if_neg he, if_neg he]
    refine (rWAdd_err g lim e L B m d w h he).mono ?_
    rintro r w' ⟨h1, hd⟩
    exact ⟨h1, h.keep hd.ext, WF.ofExt hd.ext h.lt⟩
theorem rWN_negF (g : Nat) (lim e : Int) (L : List Nat) (n : Int) (h0 : n < 0) (w : World) (h : RWr w g lim e L) :
    Calls Tryz.prog 27 #[.pointer (some ⟨g, 0, none⟩), .int .i64 n] w fun r w' => r = .returned (.int .i64 (if e = 0 then 3 else e)) ∧ RWr w' g lim (if e = 0 then 3 else e) L ∧ WF g 1 w w' := by
  have H2 := h.c2
  have F2 := h.f2
  have HH := Lib.hid h
  clear h
  by_cases he : e = 0
  · subst he
    simp only [if_true]
    go_enter Tryz.func27, Tryz.ntmps27
    go_wp2
    go_ret
    exact ⟨rfl, HH.out.setErr 3, WF.same ((But.refl _ _).setCell (p := ⟨g, 2, none⟩) (.inl rfl) _) (by simp [go_sem])⟩
  · simp only [if_neg he]
    have hef : (e == 0) = false := beq_false_of_ne he
    clear he
    go_enter Tryz.func27, Tryz.ntmps27
    go_wp2
    go_ret
    exact ⟨rfl, HH.out, WF.refl _ _ _⟩
theorem rWN_posF (g : Nat) (lim e : Int) (L : List Nat) (N : Nat) (hN : N < 9223372036854775808) (w : World) (h : RWr w g lim e L) :
    Calls Tryz.prog 27 #[.pointer (some ⟨g, 0, none⟩), .int .i64 (N : Int)] w fun r w' => r = .returned (.int .i64 (wAddE lim e L (putL N))) ∧ RWr w' g lim (wAddE lim e L (putL N)) (wAddL lim e L (putL N)) ∧ WF g 1 w w' := by
  have H := Lib.hid h
  have hn : ¬ (N : Int) < 0 := by omega
  have hN2 : (N : Int) < 9223372036854775808 := by omega
  have CP := Lib.hid (fun w => rPut_any N (by omega) w)
  have hp : (putL N).length ≤ 1048576 := by have := putL_len N 9 (by omega); omega
  have HP := Lib.hid hp
  obtain ⟨E, hE⟩ : ∃ E, E = wAddE lim e L (putL N) := ⟨_, rfl⟩
  obtain ⟨M, hM⟩ : ∃ M, M = wAddL lim e L (putL N) := ⟨_, rfl⟩
  rw [← hE, ← hM]
  have HE := Lib.hid (And.intro hE hM)
  clear h hE hM hp hN
  go_enter Tryz.func27, Tryz.ntmps27
  go_wp2_with fail
  refine (CP.out _).mono ?_
  rintro r w1 ⟨v, rfl, h1, hx1⟩
  obtain ⟨A1, c1, rfl, s1⟩ := own_parts h1
  have C := rWAdd_anyF g lim e L (putL N) A1 (putL N).length c1 w1 (H.out.keep hx1) s1 HP.out
  rw [← HE.out.1, ← HE.out.2] at C
  replace C := Lib.hid C
  have X1 := Lib.hid (And.intro hx1 H.out.lt)
  clear h1 s1 hx1
  go_wp2_with fail
  refine C.out.mono ?_
  rintro r w2 ⟨rfl, hw2, hb2⟩
  have W2 := Lib.hid (And.intro hw2 hb2)
  clear hw2 hb2 C
  go_wp2_with fail
  go_ret
  exact ⟨rfl, W2.out.1, (WF.ofExt X1.out.1 X1.out.2).trans W2.out.2⟩
theorem rWN_anyF (g : Nat) (lim e : Int) (L : List Nat) (n : Int) (h0 : -9223372036854775808 ≤ n) (h1 : n ≤ 9223372036854775807) (w : World) (h : RWr w g lim e L) :
    Calls Tryz.prog 27 #[.pointer (some ⟨g, 0, none⟩), .int .i64 n] w fun r w' => r = .returned (.int .i64 (wNE lim e L n)) ∧ RWr w' g lim (wNE lim e L n) (wNL lim e L n) ∧ WF g 1 w w' := by
  unfold wNE wNL
  by_cases hn : n < 0
  · refine (rWN_negF g lim e L n hn w h).mono ?_
    rintro r w' ⟨h2, h3, h4⟩
    by_cases he : e = 0
    · subst he
      simp only [if_true, if_pos hn] at h2 h3 ⊢
      exact ⟨h2, h3, h4⟩
    · simp only [if_neg he] at h2 h3 ⊢
      exact ⟨h2, h3, h4⟩
  · obtain ⟨N, rfl⟩ : ∃ N : Nat, n = N := ⟨n.toNat, by omega⟩
    refine (rWN_posF g lim e L N (by omega) w h).mono ?_
    rintro r w' ⟨h2, h3, h4⟩
    by_cases he : e = 0
    · subst he
      simp only [if_true, if_neg hn, Int.toNat_natCast]
      exact ⟨h2, h3, h4⟩
    · have E1 : wAddE lim e L (putL N) = e := if_neg he
      have E2 : wAddL lim e L (putL N) = L := by unfold wAddL; rw [E1, if_neg he]
      rw [E1, E2] at h3
      rw [E1] at h2
      simp only [if_neg he]
      exact ⟨h2, h3, h4⟩
end
section
open Go.RowKit
theorem RRd.set {w : World} {g k : Nat} {L : List Nat} {f : Option (Int × Int)} (h : RRd w g L k f) {b o : Nat} (hg : g < b) (v : Value) : RRd (w.setCell ⟨b, o, none⟩ v) g L k f := by
  obtain ⟨A, c, h0, h1, h2⟩ := h.b
  obtain ⟨t, h3, h4, h5⟩ := h.c1
  obtain ⟨cs, z, h6⟩ := h.ty
  obtain ⟨cs1, z1, h7⟩ := heap_type_set (p := ⟨b, o, none⟩) (v := v) h6
  have cl : ∀ q, (w.setCell ⟨b, o, none⟩ v).cell? ⟨g, q, none⟩ = w.cell? ⟨g, q, none⟩ := fun q => cell_set_other (.inl (by omega))
  have fl : ∀ q, (w.setCell ⟨b, o, none⟩ v).frozen? ⟨g, q, none⟩ = w.frozen? ⟨g, q, none⟩ := fun q => by simp
  exact ⟨⟨A, c, (cl 0).trans h0, h1.setOther fun b' o' s e => by have := (h2 b' o' s e).1; omega, h2⟩, ⟨t, (cl 1).trans h3, h4, h5⟩, (cl 2).trans h.c2, (cl 3).trans h.c3, (fl 1).trans h.f1, (fl 2).trans h.f2, (fl 3).trans h.f3, by simpa using h.lt, h.le, h.byt, h.nz, cs1, z1, h7⟩
set_option maxRecDepth 100000 in
set_option maxHeartbeats 1000000 in
theorem rU_ok (g n c k : Nat) (A : Option Addr) (L : List Nat) (J : Nat) (hJ : J ≤ L.length) (N : Int) (w : World) (h : RRd w g L k none) (g_0 : w.cell? ⟨g, 0, none⟩ = some (.slice A n c)) (hS : Sl w 1 A n c (by_ L))
    (CG : Hid (∀ w, RRd w g L k none → Sl w 1 A n c (by_ L) → Calls Tryz.prog 78 #[.slice A n c, .int .i64 (k : Int)] w fun r w' => r = .returned (.tuple #[.int .u64 N, .int .i64 (J : Int), .agg #[.int .i64 0, .int .i64 0]]) ∧ Ext w w')) :
    Calls Tryz.prog 45 #[.pointer (some ⟨g, 0, none⟩)] w fun r w' => r = .returned (.int .u64 N) ∧ RRd w' g L J none ∧ But (· = g) w w' := by
  obtain ⟨t, g_1, _, ht⟩ := h.c1
  rw [ht rfl] at g_1
  have g_2 : w.cell? ⟨g, 2, none⟩ = some (.int .i64 0) := h.c2
  have g_3 : w.cell? ⟨g, 3, none⟩ = some (.int .i64 0) := h.c3
  have g_1f := h.f1
  have g_2f := h.f2
  have g_3f := h.f3
  have rg := h.lt
  have rga : g < w.heap.size + 1 := by omega
  have rgb : g < w.heap.size + 1 + 1 := by omega
  have rgc : g < w.heap.size + 1 + 1 + 1 := by omega
  have rgn : ¬ g = w.heap.size := by omega
  have HR := Lib.hid h
  have HS := Lib.hid hS
  clear h ht hS
  go_enter Tryz.func45, Tryz.ntmps45
  go_wp2_with fail
  refine wp_region_held_drew (S := fun w' => w'.cell? ⟨g, 0, none⟩ = some (.slice A n c) ∧ w'.cell? ⟨g, 1, none⟩ = some (.int .i64 (k : Int))) (by kernel_rfl) (by first | exact ⟨g_0, g_1⟩ | (simp [go_sem, World.cell?_alloc_past, g_0, g_1, g_1f, g_2, g_2f, g_3, g_3f, rg, rga, rgb, rgc, rgn]; done)) (fun hHeld => ?_)
  (refine' take_in 0 rfl (by kernel_rfl) (by kernel_rfl) (by kernel_rfl) (fun _ _ _ h => h) (by rfl) (by assumption) ?_ ?_; rotate_left; focus (intro w hSw; (try dsimp only at hSw); go_simp; try with_reducible rfl)); try simp only [Act.put, List.setIfInBounds_toArray, List.set_cons_zero, List.set_cons_succ]
  (refine' take_in 1 rfl (by kernel_rfl) (by kernel_rfl) (by kernel_rfl) (fun _ _ _ h => h) (by rfl) (by assumption) ?_ ?_; rotate_left; focus (intro w hSw; (try dsimp only at hSw); go_simp; try with_reducible rfl)); try simp only [Act.put, List.setIfInBounds_toArray, List.set_cons_zero, List.set_cons_succ]
  (refine' take_in 2 rfl (by kernel_rfl) (by kernel_rfl) (by kernel_rfl) (fun _ _ _ h => h) (by rfl) (by assumption) ?_ ?_; rotate_left; focus (intro w hSw; (try dsimp only at hSw); go_simp; try with_reducible rfl)); try simp only [Act.put, List.setIfInBounds_toArray, List.set_cons_zero, List.set_cons_succ]
  (refine' take_in 3 rfl (by kernel_rfl) (by kernel_rfl) (by kernel_rfl) (fun _ _ _ h => h) (by rfl) (by assumption) ?_ ?_; rotate_left; focus (intro w hSw; (try dsimp only at hSw); go_simp; try with_reducible rfl)); try simp only [Act.put, List.setIfInBounds_toArray, List.set_cons_zero, List.set_cons_succ]
  (refine' take_in 4 rfl (by kernel_rfl) (by kernel_rfl) (by kernel_rfl) (fun _ _ _ h => h) (by rfl) (by assumption) ?_ ?_; rotate_left; focus (intro w hSw; (try dsimp only at hSw); go_simp; try with_reducible rfl)); try simp only [Act.put, List.setIfInBounds_toArray, List.set_cons_zero, List.set_cons_succ]
  (refine' take_in 5 rfl (by kernel_rfl) (by kernel_rfl) (by kernel_rfl) (fun _ _ _ h => h) (by rfl) (by assumption) ?_ ?_; rotate_left; focus (intro w hSw; (try dsimp only at hSw); go_simp; try with_reducible rfl)); try simp only [Act.put, List.setIfInBounds_toArray, List.set_cons_zero, List.set_cons_succ]
  (refine' take_in 6 rfl (by kernel_rfl) (by kernel_rfl) (by kernel_rfl) (fun _ _ _ h => h) (by rfl) (by assumption) ?_ ?_; rotate_left; focus (intro w hSw; (try dsimp only at hSw); go_simp; try with_reducible rfl)); try simp only [Act.put, List.setIfInBounds_toArray, List.set_cons_zero, List.set_cons_succ]
  (refine' take_in 7 rfl (by kernel_rfl) (by kernel_rfl) (by kernel_rfl) (fun _ _ _ h => h) (by rfl) (by assumption) ?_ ?_; rotate_left; focus (intro w hSw; (try dsimp only at hSw); go_simp; try with_reducible rfl)); try simp only [Act.put, List.setIfInBounds_toArray, List.set_cons_zero, List.set_cons_succ]
  refine' next2_in 8 13 rfl rfl (by kernel_rfl) (by rfl) (by rfl) (fun K hK => ?_) (fun K hK => ?_)
  · go_simp
    (with_reducible refine (CG.out _ (HR.out.ext (by repeat (first | with_reducible exact Ext.refl _ | with_reducible refine Ext.drew ?_ | with_reducible refine Ext.drewN ?_ _ | with_reducible refine Ext.alloc ?_ _ | with_reducible refine Ext.setCell ?_ (by first | omega | (simp; done) | (simp; omega)) _))) (HS.out.ext (by repeat (first | with_reducible exact Ext.refl _ | with_reducible refine Ext.drew ?_ | with_reducible refine Ext.drewN ?_ _ | with_reducible refine Ext.alloc ?_ _ | with_reducible refine Ext.setCell ?_ (by first | omega | (simp; done) | (simp; omega)) _)))).mono ?_)
    rintro e w1 ⟨rfl, hx1⟩
    replace g_1f : w1.frozen? ⟨g, 1, none⟩ = false := hx1.froz (v := .int .i64 (k : Int)) (by first | exact g_1 | (simp [go_sem, World.cell?_alloc_past, g_0, g_1, g_1f, g_2, g_2f, g_3, g_3f, rg, rga, rgb, rgc, rgn]; done)) (by first | exact g_1f | (simp [go_sem, World.cell?_alloc_past, g_0, g_1, g_1f, g_2, g_2f, g_3, g_3f, rg, rga, rgb, rgc, rgn]; done))
    replace g_0 : w1.cell? ⟨g, 0, none⟩ = some (.slice A n c) := hx1.has (by first | exact g_0 | (simp [go_sem, World.cell?_alloc_past, g_0, g_1, g_1f, g_2, g_2f, g_3, g_3f, rg, rga, rgb, rgc, rgn]; done))
    replace g_1 : w1.cell? ⟨g, 1, none⟩ = some (.int .i64 (k : Int)) := hx1.has (by first | exact g_1 | (simp [go_sem, World.cell?_alloc_past, g_0, g_1, g_1f, g_2, g_2f, g_3, g_3f, rg, rga, rgb, rgc, rgn]; done))
    have z1 := hx1.size
    try simp at z1
    replace rg : g < w1.heap.size := by omega
    replace rga : g < w1.heap.size + 1 := by omega
    replace rgb : g < w1.heap.size + 1 + 1 := by omega
    replace rgc : g < w1.heap.size + 1 + 1 + 1 := by omega
    replace rgn : ¬ g = w1.heap.size := by omega
    replace HR := Lib.hid (HR.out.ext (Ext.trans (by repeat (first | with_reducible exact Ext.refl _ | with_reducible refine Ext.drew ?_ | with_reducible refine Ext.drewN ?_ _ | with_reducible refine Ext.alloc ?_ _ | with_reducible refine Ext.setCell ?_ (by first | omega | (simp; done) | (simp; omega)) _)) hx1))
    replace HS := Lib.hid (HS.out.ext (Ext.trans (by repeat (first | with_reducible exact Ext.refl _ | with_reducible refine Ext.drew ?_ | with_reducible refine Ext.drewN ?_ _ | with_reducible refine Ext.alloc ?_ _ | with_reducible refine Ext.setCell ?_ (by first | omega | (simp; done) | (simp; omega)) _)) hx1))
    have X1 : Hid (Ext w w1) := Lib.hid (Ext.trans (by repeat (first | with_reducible exact Ext.refl w | with_reducible refine Ext.drew ?_ | with_reducible refine Ext.drewN ?_ _ | with_reducible refine Ext.alloc ?_ _ | with_reducible refine Ext.setCell ?_ (by first | omega | (simp; done) | (simp; omega)) _)) hx1)
    clear g_2f g_2 g_3 g_3f hx1 z1
    refine hK.out _ _ (by (first | exact ⟨g_0, g_1⟩ | (simp [go_sem, World.cell?_alloc_past, g_1f, g_0, g_1, rg, rga, rgb, rgc, rgn]; done))) (fun hHeld => ?_); clear hK K; try simp only [Act.put, List.setIfInBounds_toArray, List.set_cons_zero, List.set_cons_succ]
    (refine' take_in 9 rfl (by kernel_rfl) (by kernel_rfl) (by kernel_rfl) (fun _ _ _ h => h) (by rfl) (by assumption) ?_ ?_; rotate_left; focus (intro w hSw; (try dsimp only at hSw); go_simp; try with_reducible rfl)); try simp only [Act.put, List.setIfInBounds_toArray, List.set_cons_zero, List.set_cons_succ]
    (refine' take_in 10 rfl (by kernel_rfl) (by kernel_rfl) (by kernel_rfl) (fun _ _ _ h => h) (by rfl) (by assumption) ?_ ?_; rotate_left; focus (intro w hSw; (try dsimp only at hSw); go_simp; try with_reducible rfl)); try simp only [Act.put, List.setIfInBounds_toArray, List.set_cons_zero, List.set_cons_succ]
    (refine' take_in 11 rfl (by kernel_rfl) (by kernel_rfl) (by kernel_rfl) (fun _ _ _ h => h) (by rfl) (by assumption) ?_ ?_; rotate_left; focus (intro w hSw; (try dsimp only at hSw); go_simp; try with_reducible rfl)); try simp only [Act.put, List.setIfInBounds_toArray, List.set_cons_zero, List.set_cons_succ]
    (refine' take_in 12 rfl (by kernel_rfl) (by kernel_rfl) (by kernel_rfl) (fun _ _ _ h => h) (by rfl) (by assumption) ?_ ?_; rotate_left; focus (intro w hSw; (try dsimp only at hSw); go_simp; try with_reducible rfl)); try simp only [Act.put, List.setIfInBounds_toArray, List.set_cons_zero, List.set_cons_succ]
    refine' next_in 13 rfl (by kernel_rfl) (by rfl) (fun K hK => ?_)
    go_simp
    refine hK.out _ _ (by (first | exact ⟨g_0, g_1⟩ | (simp [go_sem, World.cell?_alloc_past, g_1f, g_0, g_1, rg, rga, rgb, rgc, rgn]; done))) (fun hHeld => ?_); clear hK K; try simp only [Act.put, List.setIfInBounds_toArray, List.set_cons_zero, List.set_cons_succ]
    (refine' take_in 14 rfl (by kernel_rfl) (by kernel_rfl) (by kernel_rfl) (fun _ _ _ h => h) (by rfl) (by assumption) ?_ ?_; rotate_left; focus (intro w hSw; (try dsimp only at hSw); go_simp; try with_reducible rfl)); try simp only [Act.put, List.setIfInBounds_toArray, List.set_cons_zero, List.set_cons_succ]
    (refine' take_in 15 rfl (by kernel_rfl) (by kernel_rfl) (by kernel_rfl) (fun _ _ _ h => h) (by rfl) (by assumption) ?_ ?_; rotate_left; focus (intro w hSw; (try dsimp only at hSw); go_simp; try with_reducible rfl)); try simp only [Act.put, List.setIfInBounds_toArray, List.set_cons_zero, List.set_cons_succ]
    refine' next_in 16 rfl (by kernel_rfl) (by rfl) (fun K hK => ?_)
    go_simp
    refine hK.out _ _ (by (first | exact ⟨g_0, g_1⟩ | (simp [go_sem, World.cell?_alloc_past, g_1f, g_0, g_1, rg, rga, rgb, rgc, rgn]; done))) (fun hHeld => ?_); clear hK K; try simp only [Act.put, List.setIfInBounds_toArray, List.set_cons_zero, List.set_cons_succ]
    refine wpAnyH_done (by kernel_rfl) ?_ _
    go_wp2_with fail
    go_ret
    refine ⟨rfl, ?_, (by repeat (first | with_reducible exact But.ofExt X1.out | with_reducible refine But.drew ?_ | with_reducible refine But.drewN ?_ _ | with_reducible refine But.alloc ?_ _ | with_reducible refine But.setG ?_ _ | with_reducible refine But.setNew ?_ (by first | omega | (simp; done) | (simp; omega)) _))⟩
    repeat (first | with_reducible exact HR.out | with_reducible refine RRd.setTo (k := k) ?_ hJ | with_reducible refine RRd.set ?_ (by omega) _ | (with_reducible refine RRd.ext ?_ (Ext.alloc (Ext.refl _) _)))
  · go_simp
    refine hK.out _ _ (by (first | exact ⟨g_0, g_1⟩ | (simp [go_sem, World.cell?_alloc_past, g_0, g_1, g_1f, g_2, g_2f, g_3, g_3f, rg, rga, rgb, rgc, rgn]; done))) (fun hHeld => ?_); clear hK K; try simp only [Act.put, List.setIfInBounds_toArray, List.set_cons_zero, List.set_cons_succ]
    refine' next_in 8 rfl (by kernel_rfl) (by rfl) (fun K hK => ?_)
    go_simp
    (with_reducible refine (CG.out _ (HR.out.ext (by repeat (first | with_reducible exact Ext.refl _ | with_reducible refine Ext.drew ?_ | with_reducible refine Ext.drewN ?_ _ | with_reducible refine Ext.alloc ?_ _ | with_reducible refine Ext.setCell ?_ (by first | omega | (simp; done) | (simp; omega)) _))) (HS.out.ext (by repeat (first | with_reducible exact Ext.refl _ | with_reducible refine Ext.drew ?_ | with_reducible refine Ext.drewN ?_ _ | with_reducible refine Ext.alloc ?_ _ | with_reducible refine Ext.setCell ?_ (by first | omega | (simp; done) | (simp; omega)) _)))).mono ?_)
    rintro e w1 ⟨rfl, hx1⟩
    replace g_1f : w1.frozen? ⟨g, 1, none⟩ = false := hx1.froz (v := .int .i64 (k : Int)) (by first | exact g_1 | (simp [go_sem, World.cell?_alloc_past, g_0, g_1, g_1f, g_2, g_2f, g_3, g_3f, rg, rga, rgb, rgc, rgn]; done)) (by first | exact g_1f | (simp [go_sem, World.cell?_alloc_past, g_0, g_1, g_1f, g_2, g_2f, g_3, g_3f, rg, rga, rgb, rgc, rgn]; done))
    replace g_0 : w1.cell? ⟨g, 0, none⟩ = some (.slice A n c) := hx1.has (by first | exact g_0 | (simp [go_sem, World.cell?_alloc_past, g_0, g_1, g_1f, g_2, g_2f, g_3, g_3f, rg, rga, rgb, rgc, rgn]; done))
    replace g_1 : w1.cell? ⟨g, 1, none⟩ = some (.int .i64 (k : Int)) := hx1.has (by first | exact g_1 | (simp [go_sem, World.cell?_alloc_past, g_0, g_1, g_1f, g_2, g_2f, g_3, g_3f, rg, rga, rgb, rgc, rgn]; done))
    have c0_0f : w1.frozen? ⟨w.heap.size, 0, none⟩ = false := hx1.froz (v := .int .i64 0) (by first | fail | (simp [go_sem, World.cell?_alloc_past, g_0, g_1, g_1f, g_2, g_2f, g_3, g_3f, rg, rga, rgb, rgc, rgn]; done)) (by first | fail | (simp [go_sem, World.cell?_alloc_past, g_0, g_1, g_1f, g_2, g_2f, g_3, g_3f, rg, rga, rgb, rgc, rgn]; done))
    have c0_1f : w1.frozen? ⟨w.heap.size, 1, none⟩ = false := hx1.froz (v := .int .i64 0) (by first | fail | (simp [go_sem, World.cell?_alloc_past, g_0, g_1, g_1f, g_2, g_2f, g_3, g_3f, rg, rga, rgb, rgc, rgn]; done)) (by first | fail | (simp [go_sem, World.cell?_alloc_past, g_0, g_1, g_1f, g_2, g_2f, g_3, g_3f, rg, rga, rgb, rgc, rgn]; done))
    have c0_0 : w1.cell? ⟨w.heap.size, 0, none⟩ = some (.int .i64 0) := hx1.has (by first | fail | (simp [go_sem, World.cell?_alloc_past, g_0, g_1, g_1f, g_2, g_2f, g_3, g_3f, rg, rga, rgb, rgc, rgn]; done))
    have c0_1 : w1.cell? ⟨w.heap.size, 1, none⟩ = some (.int .i64 0) := hx1.has (by first | fail | (simp [go_sem, World.cell?_alloc_past, g_0, g_1, g_1f, g_2, g_2f, g_3, g_3f, rg, rga, rgb, rgc, rgn]; done))
    have z1 := hx1.size
    try simp at z1
    have lt_g_c0 : g < w.heap.size := by omega
    have ne_g_c0 : ¬ g = w.heap.size := by omega
    have ne_c0_g : ¬ w.heap.size = g := by omega
    replace rg : g < w1.heap.size := by omega
    replace rga : g < w1.heap.size + 1 := by omega
    replace rgb : g < w1.heap.size + 1 + 1 := by omega
    replace rgc : g < w1.heap.size + 1 + 1 + 1 := by omega
    replace rgn : ¬ g = w1.heap.size := by omega
    have rc0 : w.heap.size < w1.heap.size := by omega
    have rc0a : w.heap.size < w1.heap.size + 1 := by omega
    have rc0b : w.heap.size < w1.heap.size + 1 + 1 := by omega
    have rc0c : w.heap.size < w1.heap.size + 1 + 1 + 1 := by omega
    have rc0n : ¬ w.heap.size = w1.heap.size := by omega
    replace HR := Lib.hid (HR.out.ext (Ext.trans (by repeat (first | with_reducible exact Ext.refl _ | with_reducible refine Ext.drew ?_ | with_reducible refine Ext.drewN ?_ _ | with_reducible refine Ext.alloc ?_ _ | with_reducible refine Ext.setCell ?_ (by first | omega | (simp; done) | (simp; omega)) _)) hx1))
    replace HS := Lib.hid (HS.out.ext (Ext.trans (by repeat (first | with_reducible exact Ext.refl _ | with_reducible refine Ext.drew ?_ | with_reducible refine Ext.drewN ?_ _ | with_reducible refine Ext.alloc ?_ _ | with_reducible refine Ext.setCell ?_ (by first | omega | (simp; done) | (simp; omega)) _)) hx1))
    have X1 : Hid (Ext w w1) := Lib.hid (Ext.trans (by repeat (first | with_reducible exact Ext.refl w | with_reducible refine Ext.drew ?_ | with_reducible refine Ext.drewN ?_ _ | with_reducible refine Ext.alloc ?_ _ | with_reducible refine Ext.setCell ?_ (by first | omega | (simp; done) | (simp; omega)) _)) hx1)
    clear g_2f g_2 g_3 g_3f hx1 z1
    refine hK.out _ _ (by (first | exact ⟨g_0, g_1⟩ | (simp [go_sem, World.cell?_alloc_past, g_1f, g_0, g_1, c0_0f, c0_1f, c0_0, c0_1, ne_g_c0, ne_c0_g, rg, rga, rgb, rgc, rgn, rc0, rc0a, rc0b, rc0c, rc0n]; done))) (fun hHeld => ?_); clear hK K; try simp only [Act.put, List.setIfInBounds_toArray, List.set_cons_zero, List.set_cons_succ]
    (refine' take_in 9 rfl (by kernel_rfl) (by kernel_rfl) (by kernel_rfl) (fun _ _ _ h => h) (by rfl) (by assumption) ?_ ?_; rotate_left; focus (intro w hSw; (try dsimp only at hSw); go_simp; try with_reducible rfl)); try simp only [Act.put, List.setIfInBounds_toArray, List.set_cons_zero, List.set_cons_succ]
    (refine' take_in 10 rfl (by kernel_rfl) (by kernel_rfl) (by kernel_rfl) (fun _ _ _ h => h) (by rfl) (by assumption) ?_ ?_; rotate_left; focus (intro w hSw; (try dsimp only at hSw); go_simp; try with_reducible rfl)); try simp only [Act.put, List.setIfInBounds_toArray, List.set_cons_zero, List.set_cons_succ]
    (refine' take_in 11 rfl (by kernel_rfl) (by kernel_rfl) (by kernel_rfl) (fun _ _ _ h => h) (by rfl) (by assumption) ?_ ?_; rotate_left; focus (intro w hSw; (try dsimp only at hSw); go_simp; try with_reducible rfl)); try simp only [Act.put, List.setIfInBounds_toArray, List.set_cons_zero, List.set_cons_succ]
    (refine' take_in 12 rfl (by kernel_rfl) (by kernel_rfl) (by kernel_rfl) (fun _ _ _ h => h) (by rfl) (by assumption) ?_ ?_; rotate_left; focus (intro w hSw; (try dsimp only at hSw); go_simp; try with_reducible rfl)); try simp only [Act.put, List.setIfInBounds_toArray, List.set_cons_zero, List.set_cons_succ]
    (refine' take_in 14 rfl (by kernel_rfl) (by kernel_rfl) (by kernel_rfl) (fun _ _ _ h => h) (by rfl) (by assumption) ?_ ?_; rotate_left; focus (intro w hSw; (try dsimp only at hSw); go_simp; try with_reducible rfl)); try simp only [Act.put, List.setIfInBounds_toArray, List.set_cons_zero, List.set_cons_succ]
    (refine' take_in 15 rfl (by kernel_rfl) (by kernel_rfl) (by kernel_rfl) (fun _ _ _ h => h) (by rfl) (by assumption) ?_ ?_; rotate_left; focus (intro w hSw; (try dsimp only at hSw); go_simp; try with_reducible rfl)); try simp only [Act.put, List.setIfInBounds_toArray, List.set_cons_zero, List.set_cons_succ]
    refine' next_in 16 rfl (by kernel_rfl) (by rfl) (fun K hK => ?_)
    go_simp
    refine hK.out _ _ (by (first | exact ⟨g_0, g_1⟩ | (simp [go_sem, World.cell?_alloc_past, g_1f, g_0, g_1, c0_0f, c0_1f, c0_0, c0_1, ne_g_c0, ne_c0_g, rg, rga, rgb, rgc, rgn, rc0, rc0a, rc0b, rc0c, rc0n]; done))) (fun hHeld => ?_); clear hK K; try simp only [Act.put, List.setIfInBounds_toArray, List.set_cons_zero, List.set_cons_succ]
    refine wpAnyH_done (by kernel_rfl) ?_ _
    go_wp2_with fail
    go_ret
    refine ⟨rfl, ?_, (by repeat (first | with_reducible exact But.ofExt X1.out | with_reducible refine But.drew ?_ | with_reducible refine But.drewN ?_ _ | with_reducible refine But.alloc ?_ _ | with_reducible refine But.setG ?_ _ | with_reducible refine But.setNew ?_ (by first | omega | (simp; done) | (simp; omega)) _))⟩
    repeat (first | with_reducible exact HR.out | with_reducible refine RRd.setTo (k := k) ?_ hJ | with_reducible refine RRd.set ?_ (by omega) _ | (with_reducible refine RRd.ext ?_ (Ext.alloc (Ext.refl _) _)))
set_option maxRecDepth 100000 in
set_option maxHeartbeats 1000000 in
theorem rU_bad (g n c k : Nat) (A : Option Addr) (L : List Nat) (E : Int) (hE : (E == 0) = false) (hE2 : (E != 0) = true) (hE0 : Hid (¬ E = 0)) (w : World) (h : RRd w g L k none) (g_0 : w.cell? ⟨g, 0, none⟩ = some (.slice A n c)) (hS : Sl w 1 A n c (by_ L))
    (CG : Hid (∀ w, RRd w g L k none → Sl w 1 A n c (by_ L) → Calls Tryz.prog 78 #[.slice A n c, .int .i64 (k : Int)] w fun r w' => r = .returned (.tuple #[.int .u64 0, .int .i64 0, .agg #[.int .i64 E, .int .i64 (k : Int)]]) ∧ Ext w w')) :
    Calls Tryz.prog 45 #[.pointer (some ⟨g, 0, none⟩)] w fun r w' => r = .returned (.int .u64 0) ∧ RRd w' g L k (some (E, (k : Int))) ∧ But (· = g) w w' := by
  obtain ⟨t, g_1, _, ht⟩ := h.c1
  rw [ht rfl] at g_1
  have g_2 : w.cell? ⟨g, 2, none⟩ = some (.int .i64 0) := h.c2
  have g_3 : w.cell? ⟨g, 3, none⟩ = some (.int .i64 0) := h.c3
  have g_1f := h.f1
  have g_2f := h.f2
  have g_3f := h.f3
  have rg := h.lt
  have rga : g < w.heap.size + 1 := by omega
  have rgb : g < w.heap.size + 1 + 1 := by omega
  have rgc : g < w.heap.size + 1 + 1 + 1 := by omega
  have rgn : ¬ g = w.heap.size := by omega
  have HR := Lib.hid h
  have HS := Lib.hid hS
  clear h ht hS
  go_enter Tryz.func45, Tryz.ntmps45
  go_wp2_with fail
  refine wp_region_held_drew (S := fun w' => w'.cell? ⟨g, 0, none⟩ = some (.slice A n c) ∧ w'.cell? ⟨g, 1, none⟩ = some (.int .i64 (k : Int))) (by kernel_rfl) (by first | exact ⟨g_0, g_1⟩ | (simp [go_sem, World.cell?_alloc_past, g_0, g_1, g_1f, g_2, g_2f, g_3, g_3f, rg, rga, rgb, rgc, rgn]; done)) (fun hHeld => ?_)
  (refine' take_in 0 rfl (by kernel_rfl) (by kernel_rfl) (by kernel_rfl) (fun _ _ _ h => h) (by rfl) (by assumption) ?_ ?_; rotate_left; focus (intro w hSw; (try dsimp only at hSw); go_simp; try with_reducible rfl)); try simp only [Act.put, List.setIfInBounds_toArray, List.set_cons_zero, List.set_cons_succ]
  (refine' take_in 1 rfl (by kernel_rfl) (by kernel_rfl) (by kernel_rfl) (fun _ _ _ h => h) (by rfl) (by assumption) ?_ ?_; rotate_left; focus (intro w hSw; (try dsimp only at hSw); go_simp; try with_reducible rfl)); try simp only [Act.put, List.setIfInBounds_toArray, List.set_cons_zero, List.set_cons_succ]
  (refine' take_in 2 rfl (by kernel_rfl) (by kernel_rfl) (by kernel_rfl) (fun _ _ _ h => h) (by rfl) (by assumption) ?_ ?_; rotate_left; focus (intro w hSw; (try dsimp only at hSw); go_simp; try with_reducible rfl)); try simp only [Act.put, List.setIfInBounds_toArray, List.set_cons_zero, List.set_cons_succ]
  (refine' take_in 3 rfl (by kernel_rfl) (by kernel_rfl) (by kernel_rfl) (fun _ _ _ h => h) (by rfl) (by assumption) ?_ ?_; rotate_left; focus (intro w hSw; (try dsimp only at hSw); go_simp; try with_reducible rfl)); try simp only [Act.put, List.setIfInBounds_toArray, List.set_cons_zero, List.set_cons_succ]
  (refine' take_in 4 rfl (by kernel_rfl) (by kernel_rfl) (by kernel_rfl) (fun _ _ _ h => h) (by rfl) (by assumption) ?_ ?_; rotate_left; focus (intro w hSw; (try dsimp only at hSw); go_simp; try with_reducible rfl)); try simp only [Act.put, List.setIfInBounds_toArray, List.set_cons_zero, List.set_cons_succ]
  (refine' take_in 5 rfl (by kernel_rfl) (by kernel_rfl) (by kernel_rfl) (fun _ _ _ h => h) (by rfl) (by assumption) ?_ ?_; rotate_left; focus (intro w hSw; (try dsimp only at hSw); go_simp; try with_reducible rfl)); try simp only [Act.put, List.setIfInBounds_toArray, List.set_cons_zero, List.set_cons_succ]
  (refine' take_in 6 rfl (by kernel_rfl) (by kernel_rfl) (by kernel_rfl) (fun _ _ _ h => h) (by rfl) (by assumption) ?_ ?_; rotate_left; focus (intro w hSw; (try dsimp only at hSw); go_simp; try with_reducible rfl)); try simp only [Act.put, List.setIfInBounds_toArray, List.set_cons_zero, List.set_cons_succ]
  (refine' take_in 7 rfl (by kernel_rfl) (by kernel_rfl) (by kernel_rfl) (fun _ _ _ h => h) (by rfl) (by assumption) ?_ ?_; rotate_left; focus (intro w hSw; (try dsimp only at hSw); go_simp; try with_reducible rfl)); try simp only [Act.put, List.setIfInBounds_toArray, List.set_cons_zero, List.set_cons_succ]
  refine' next2_in 8 13 rfl rfl (by kernel_rfl) (by rfl) (by rfl) (fun K hK => ?_) (fun K hK => ?_)
  · go_simp
    (with_reducible refine (CG.out _ (HR.out.ext (by repeat (first | with_reducible exact Ext.refl _ | with_reducible refine Ext.drew ?_ | with_reducible refine Ext.drewN ?_ _ | with_reducible refine Ext.alloc ?_ _ | with_reducible refine Ext.setCell ?_ (by first | omega | (simp; done) | (simp; omega)) _))) (HS.out.ext (by repeat (first | with_reducible exact Ext.refl _ | with_reducible refine Ext.drew ?_ | with_reducible refine Ext.drewN ?_ _ | with_reducible refine Ext.alloc ?_ _ | with_reducible refine Ext.setCell ?_ (by first | omega | (simp; done) | (simp; omega)) _)))).mono ?_)
    rintro e w1 ⟨rfl, hx1⟩
    replace g_2f : w1.frozen? ⟨g, 2, none⟩ = false := hx1.froz (v := .int .i64 0) (by first | exact g_2 | (simp [go_sem, World.cell?_alloc_past, g_0, g_1, g_1f, g_2, g_2f, g_3, g_3f, rg, rga, rgb, rgc, rgn]; done)) (by first | exact g_2f | (simp [go_sem, World.cell?_alloc_past, g_0, g_1, g_1f, g_2, g_2f, g_3, g_3f, rg, rga, rgb, rgc, rgn]; done))
    replace g_3f : w1.frozen? ⟨g, 3, none⟩ = false := hx1.froz (v := .int .i64 0) (by first | exact g_3 | (simp [go_sem, World.cell?_alloc_past, g_0, g_1, g_1f, g_2, g_2f, g_3, g_3f, rg, rga, rgb, rgc, rgn]; done)) (by first | exact g_3f | (simp [go_sem, World.cell?_alloc_past, g_0, g_1, g_1f, g_2, g_2f, g_3, g_3f, rg, rga, rgb, rgc, rgn]; done))
    replace g_0 : w1.cell? ⟨g, 0, none⟩ = some (.slice A n c) := hx1.has (by first | exact g_0 | (simp [go_sem, World.cell?_alloc_past, g_0, g_1, g_1f, g_2, g_2f, g_3, g_3f, rg, rga, rgb, rgc, rgn]; done))
    replace g_1 : w1.cell? ⟨g, 1, none⟩ = some (.int .i64 (k : Int)) := hx1.has (by first | exact g_1 | (simp [go_sem, World.cell?_alloc_past, g_0, g_1, g_1f, g_2, g_2f, g_3, g_3f, rg, rga, rgb, rgc, rgn]; done))
    replace g_2 : w1.cell? ⟨g, 2, none⟩ = some (.int .i64 0) := hx1.has (by first | exact g_2 | (simp [go_sem, World.cell?_alloc_past, g_0, g_1, g_1f, g_2, g_2f, g_3, g_3f, rg, rga, rgb, rgc, rgn]; done))
    replace g_3 : w1.cell? ⟨g, 3, none⟩ = some (.int .i64 0) := hx1.has (by first | exact g_3 | (simp [go_sem, World.cell?_alloc_past, g_0, g_1, g_1f, g_2, g_2f, g_3, g_3f, rg, rga, rgb, rgc, rgn]; done))
    have z1 := hx1.size
    try simp at z1
    replace rg : g < w1.heap.size := by omega
    replace rga : g < w1.heap.size + 1 := by omega
    replace rgb : g < w1.heap.size + 1 + 1 := by omega
    replace rgc : g < w1.heap.size + 1 + 1 + 1 := by omega
    replace rgn : ¬ g = w1.heap.size := by omega
    replace HR := Lib.hid (HR.out.ext (Ext.trans (by repeat (first | with_reducible exact Ext.refl _ | with_reducible refine Ext.drew ?_ | with_reducible refine Ext.drewN ?_ _ | with_reducible refine Ext.alloc ?_ _ | with_reducible refine Ext.setCell ?_ (by first | omega | (simp; done) | (simp; omega)) _)) hx1))
    replace HS := Lib.hid (HS.out.ext (Ext.trans (by repeat (first | with_reducible exact Ext.refl _ | with_reducible refine Ext.drew ?_ | with_reducible refine Ext.drewN ?_ _ | with_reducible refine Ext.alloc ?_ _ | with_reducible refine Ext.setCell ?_ (by first | omega | (simp; done) | (simp; omega)) _)) hx1))
    have X1 : Hid (Ext w w1) := Lib.hid (Ext.trans (by repeat (first | with_reducible exact Ext.refl w | with_reducible refine Ext.drew ?_ | with_reducible refine Ext.drewN ?_ _ | with_reducible refine Ext.alloc ?_ _ | with_reducible refine Ext.setCell ?_ (by first | omega | (simp; done) | (simp; omega)) _)) hx1)
    clear g_1f hx1 z1
    refine hK.out _ _ (by (first | exact ⟨g_0, g_1⟩ | (simp [go_sem, World.cell?_alloc_past, g_2f, g_3f, g_0, g_1, g_2, g_3, rg, rga, rgb, rgc, rgn]; done))) (fun hHeld => ?_); clear hK K; try simp only [Act.put, List.setIfInBounds_toArray, List.set_cons_zero, List.set_cons_succ]
    (refine' take_in 9 rfl (by kernel_rfl) (by kernel_rfl) (by kernel_rfl) (fun _ _ _ h => h) (by rfl) (by assumption) ?_ ?_; rotate_left; focus (intro w hSw; (try dsimp only at hSw); go_simp; try with_reducible rfl)); try simp only [Act.put, List.setIfInBounds_toArray, List.set_cons_zero, List.set_cons_succ]
    (refine' take_in 10 rfl (by kernel_rfl) (by kernel_rfl) (by kernel_rfl) (fun _ _ _ h => h) (by rfl) (by assumption) ?_ ?_; rotate_left; focus (intro w hSw; (try dsimp only at hSw); go_simp; try with_reducible rfl)); try simp only [Act.put, List.setIfInBounds_toArray, List.set_cons_zero, List.set_cons_succ]
    (refine' take_in 11 rfl (by kernel_rfl) (by kernel_rfl) (by kernel_rfl) (fun _ _ _ h => h) (by rfl) (by assumption) ?_ ?_; rotate_left; focus (intro w hSw; (try dsimp only at hSw); go_simp; try with_reducible rfl)); try simp only [Act.put, List.setIfInBounds_toArray, List.set_cons_zero, List.set_cons_succ]
    (refine' take_in 12 rfl (by kernel_rfl) (by kernel_rfl) (by kernel_rfl) (fun _ _ _ h => h) (by rfl) (by assumption) ?_ ?_; rotate_left; focus (intro w hSw; (try dsimp only at hSw); go_simp; try with_reducible rfl)); try simp only [Act.put, List.setIfInBounds_toArray, List.set_cons_zero, List.set_cons_succ]
    refine' next_in 13 rfl (by kernel_rfl) (by rfl) (fun K hK => ?_)
    go_simp
    refine hK.out _ _ (by (first | exact ⟨g_0, g_1⟩ | (simp [go_sem, World.cell?_alloc_past, g_2f, g_3f, g_0, g_1, g_2, g_3, rg, rga, rgb, rgc, rgn]; done))) (fun hHeld => ?_); clear hK K; try simp only [Act.put, List.setIfInBounds_toArray, List.set_cons_zero, List.set_cons_succ]
    (refine' take_in 14 rfl (by kernel_rfl) (by kernel_rfl) (by kernel_rfl) (fun _ _ _ h => h) (by rfl) (by assumption) ?_ ?_; rotate_left; focus (intro w hSw; (try dsimp only at hSw); go_simp; try with_reducible rfl)); try simp only [Act.put, List.setIfInBounds_toArray, List.set_cons_zero, List.set_cons_succ]
    (refine' take_in 15 rfl (by kernel_rfl) (by kernel_rfl) (by kernel_rfl) (fun _ _ _ h => h) (by rfl) (by assumption) ?_ ?_; rotate_left; focus (intro w hSw; (try dsimp only at hSw); go_simp; try with_reducible rfl)); try simp only [Act.put, List.setIfInBounds_toArray, List.set_cons_zero, List.set_cons_succ]
    refine' next_in 16 rfl (by kernel_rfl) (by rfl) (fun K hK => ?_)
    go_simp
    refine hK.out _ _ (by (first | exact ⟨g_0, g_1⟩ | (simp [go_sem, World.cell?_alloc_past, g_2f, g_3f, g_0, g_1, g_2, g_3, rg, rga, rgb, rgc, rgn]; done))) (fun hHeld => ?_); clear hK K; try simp only [Act.put, List.setIfInBounds_toArray, List.set_cons_zero, List.set_cons_succ]
    refine wpAnyH_done (by kernel_rfl) ?_ _
    go_wp2_with fail
    go_ret
    refine ⟨rfl, ?_, (by repeat (first | with_reducible exact But.ofExt X1.out | with_reducible refine But.drew ?_ | with_reducible refine But.drewN ?_ _ | with_reducible refine But.alloc ?_ _ | with_reducible refine But.setG ?_ _ | with_reducible refine But.setNew ?_ (by first | omega | (simp; done) | (simp; omega)) _))⟩
    repeat (first | with_reducible exact HR.out | with_reducible refine RRd.setF (k := k) ?_ hE0.out | with_reducible refine RRd.set ?_ (by omega) _ | (with_reducible refine RRd.ext ?_ (Ext.alloc (Ext.refl _) _)))
  · go_simp
    refine hK.out _ _ (by (first | exact ⟨g_0, g_1⟩ | (simp [go_sem, World.cell?_alloc_past, g_0, g_1, g_1f, g_2, g_2f, g_3, g_3f, rg, rga, rgb, rgc, rgn]; done))) (fun hHeld => ?_); clear hK K; try simp only [Act.put, List.setIfInBounds_toArray, List.set_cons_zero, List.set_cons_succ]
    refine' next_in 8 rfl (by kernel_rfl) (by rfl) (fun K hK => ?_)
    go_simp
    (with_reducible refine (CG.out _ (HR.out.ext (by repeat (first | with_reducible exact Ext.refl _ | with_reducible refine Ext.drew ?_ | with_reducible refine Ext.drewN ?_ _ | with_reducible refine Ext.alloc ?_ _ | with_reducible refine Ext.setCell ?_ (by first | omega | (simp; done) | (simp; omega)) _))) (HS.out.ext (by repeat (first | with_reducible exact Ext.refl _ | with_reducible refine Ext.drew ?_ | with_reducible refine Ext.drewN ?_ _ | with_reducible refine Ext.alloc ?_ _ | with_reducible refine Ext.setCell ?_ (by first | omega | (simp; done) | (simp; omega)) _)))).mono ?_)
    rintro e w1 ⟨rfl, hx1⟩
    replace g_2f : w1.frozen? ⟨g, 2, none⟩ = false := hx1.froz (v := .int .i64 0) (by first | exact g_2 | (simp [go_sem, World.cell?_alloc_past, g_0, g_1, g_1f, g_2, g_2f, g_3, g_3f, rg, rga, rgb, rgc, rgn]; done)) (by first | exact g_2f | (simp [go_sem, World.cell?_alloc_past, g_0, g_1, g_1f, g_2, g_2f, g_3, g_3f, rg, rga, rgb, rgc, rgn]; done))
    replace g_3f : w1.frozen? ⟨g, 3, none⟩ = false := hx1.froz (v := .int .i64 0) (by first | exact g_3 | (simp [go_sem, World.cell?_alloc_past, g_0, g_1, g_1f, g_2, g_2f, g_3, g_3f, rg, rga, rgb, rgc, rgn]; done)) (by first | exact g_3f | (simp [go_sem, World.cell?_alloc_past, g_0, g_1, g_1f, g_2, g_2f, g_3, g_3f, rg, rga, rgb, rgc, rgn]; done))
    replace g_0 : w1.cell? ⟨g, 0, none⟩ = some (.slice A n c) := hx1.has (by first | exact g_0 | (simp [go_sem, World.cell?_alloc_past, g_0, g_1, g_1f, g_2, g_2f, g_3, g_3f, rg, rga, rgb, rgc, rgn]; done))
    replace g_1 : w1.cell? ⟨g, 1, none⟩ = some (.int .i64 (k : Int)) := hx1.has (by first | exact g_1 | (simp [go_sem, World.cell?_alloc_past, g_0, g_1, g_1f, g_2, g_2f, g_3, g_3f, rg, rga, rgb, rgc, rgn]; done))
    replace g_2 : w1.cell? ⟨g, 2, none⟩ = some (.int .i64 0) := hx1.has (by first | exact g_2 | (simp [go_sem, World.cell?_alloc_past, g_0, g_1, g_1f, g_2, g_2f, g_3, g_3f, rg, rga, rgb, rgc, rgn]; done))
    replace g_3 : w1.cell? ⟨g, 3, none⟩ = some (.int .i64 0) := hx1.has (by first | exact g_3 | (simp [go_sem, World.cell?_alloc_past, g_0, g_1, g_1f, g_2, g_2f, g_3, g_3f, rg, rga, rgb, rgc, rgn]; done))
    have c0_0f : w1.frozen? ⟨w.heap.size, 0, none⟩ = false := hx1.froz (v := .int .i64 0) (by first | fail | (simp [go_sem, World.cell?_alloc_past, g_0, g_1, g_1f, g_2, g_2f, g_3, g_3f, rg, rga, rgb, rgc, rgn]; done)) (by first | fail | (simp [go_sem, World.cell?_alloc_past, g_0, g_1, g_1f, g_2, g_2f, g_3, g_3f, rg, rga, rgb, rgc, rgn]; done))
    have c0_1f : w1.frozen? ⟨w.heap.size, 1, none⟩ = false := hx1.froz (v := .int .i64 0) (by first | fail | (simp [go_sem, World.cell?_alloc_past, g_0, g_1, g_1f, g_2, g_2f, g_3, g_3f, rg, rga, rgb, rgc, rgn]; done)) (by first | fail | (simp [go_sem, World.cell?_alloc_past, g_0, g_1, g_1f, g_2, g_2f, g_3, g_3f, rg, rga, rgb, rgc, rgn]; done))
    have c0_0 : w1.cell? ⟨w.heap.size, 0, none⟩ = some (.int .i64 0) := hx1.has (by first | fail | (simp [go_sem, World.cell?_alloc_past, g_0, g_1, g_1f, g_2, g_2f, g_3, g_3f, rg, rga, rgb, rgc, rgn]; done))
    have c0_1 : w1.cell? ⟨w.heap.size, 1, none⟩ = some (.int .i64 0) := hx1.has (by first | fail | (simp [go_sem, World.cell?_alloc_past, g_0, g_1, g_1f, g_2, g_2f, g_3, g_3f, rg, rga, rgb, rgc, rgn]; done))
    have z1 := hx1.size
    try simp at z1
    have lt_g_c0 : g < w.heap.size := by omega
    have ne_g_c0 : ¬ g = w.heap.size := by omega
    have ne_c0_g : ¬ w.heap.size = g := by omega
    replace rg : g < w1.heap.size := by omega
    replace rga : g < w1.heap.size + 1 := by omega
    replace rgb : g < w1.heap.size + 1 + 1 := by omega
    replace rgc : g < w1.heap.size + 1 + 1 + 1 := by omega
    replace rgn : ¬ g = w1.heap.size := by omega
    have rc0 : w.heap.size < w1.heap.size := by omega
    have rc0a : w.heap.size < w1.heap.size + 1 := by omega
    have rc0b : w.heap.size < w1.heap.size + 1 + 1 := by omega
    have rc0c : w.heap.size < w1.heap.size + 1 + 1 + 1 := by omega
    have rc0n : ¬ w.heap.size = w1.heap.size := by omega
    replace HR := Lib.hid (HR.out.ext (Ext.trans (by repeat (first | with_reducible exact Ext.refl _ | with_reducible refine Ext.drew ?_ | with_reducible refine Ext.drewN ?_ _ | with_reducible refine Ext.alloc ?_ _ | with_reducible refine Ext.setCell ?_ (by first | omega | (simp; done) | (simp; omega)) _)) hx1))
    replace HS := Lib.hid (HS.out.ext (Ext.trans (by repeat (first | with_reducible exact Ext.refl _ | with_reducible refine Ext.drew ?_ | with_reducible refine Ext.drewN ?_ _ | with_reducible refine Ext.alloc ?_ _ | with_reducible refine Ext.setCell ?_ (by first | omega | (simp; done) | (simp; omega)) _)) hx1))
    have X1 : Hid (Ext w w1) := Lib.hid (Ext.trans (by repeat (first | with_reducible exact Ext.refl w | with_reducible refine Ext.drew ?_ | with_reducible refine Ext.drewN ?_ _ | with_reducible refine Ext.alloc ?_ _ | with_reducible refine Ext.setCell ?_ (by first | omega | (simp; done) | (simp; omega)) _)) hx1)
    clear g_1f hx1 z1
    refine hK.out _ _ (by (first | exact ⟨g_0, g_1⟩ | (simp [go_sem, World.cell?_alloc_past, g_2f, g_3f, g_0, g_1, g_2, g_3, c0_0f, c0_1f, c0_0, c0_1, ne_g_c0, ne_c0_g, rg, rga, rgb, rgc, rgn, rc0, rc0a, rc0b, rc0c, rc0n]; done))) (fun hHeld => ?_); clear hK K; try simp only [Act.put, List.setIfInBounds_toArray, List.set_cons_zero, List.set_cons_succ]
    (refine' take_in 9 rfl (by kernel_rfl) (by kernel_rfl) (by kernel_rfl) (fun _ _ _ h => h) (by rfl) (by assumption) ?_ ?_; rotate_left; focus (intro w hSw; (try dsimp only at hSw); go_simp; try with_reducible rfl)); try simp only [Act.put, List.setIfInBounds_toArray, List.set_cons_zero, List.set_cons_succ]
    (refine' take_in 10 rfl (by kernel_rfl) (by kernel_rfl) (by kernel_rfl) (fun _ _ _ h => h) (by rfl) (by assumption) ?_ ?_; rotate_left; focus (intro w hSw; (try dsimp only at hSw); go_simp; try with_reducible rfl)); try simp only [Act.put, List.setIfInBounds_toArray, List.set_cons_zero, List.set_cons_succ]
    (refine' take_in 11 rfl (by kernel_rfl) (by kernel_rfl) (by kernel_rfl) (fun _ _ _ h => h) (by rfl) (by assumption) ?_ ?_; rotate_left; focus (intro w hSw; (try dsimp only at hSw); go_simp; try with_reducible rfl)); try simp only [Act.put, List.setIfInBounds_toArray, List.set_cons_zero, List.set_cons_succ]
    (refine' take_in 12 rfl (by kernel_rfl) (by kernel_rfl) (by kernel_rfl) (fun _ _ _ h => h) (by rfl) (by assumption) ?_ ?_; rotate_left; focus (intro w hSw; (try dsimp only at hSw); go_simp; try with_reducible rfl)); try simp only [Act.put, List.setIfInBounds_toArray, List.set_cons_zero, List.set_cons_succ]
    (refine' take_in 14 rfl (by kernel_rfl) (by kernel_rfl) (by kernel_rfl) (fun _ _ _ h => h) (by rfl) (by assumption) ?_ ?_; rotate_left; focus (intro w hSw; (try dsimp only at hSw); go_simp; try with_reducible rfl)); try simp only [Act.put, List.setIfInBounds_toArray, List.set_cons_zero, List.set_cons_succ]
    (refine' take_in 15 rfl (by kernel_rfl) (by kernel_rfl) (by kernel_rfl) (fun _ _ _ h => h) (by rfl) (by assumption) ?_ ?_; rotate_left; focus (intro w hSw; (try dsimp only at hSw); go_simp; try with_reducible rfl)); try simp only [Act.put, List.setIfInBounds_toArray, List.set_cons_zero, List.set_cons_succ]
    refine' next_in 16 rfl (by kernel_rfl) (by rfl) (fun K hK => ?_)
    go_simp
    refine hK.out _ _ (by (first | exact ⟨g_0, g_1⟩ | (simp [go_sem, World.cell?_alloc_past, g_2f, g_3f, g_0, g_1, g_2, g_3, c0_0f, c0_1f, c0_0, c0_1, ne_g_c0, ne_c0_g, rg, rga, rgb, rgc, rgn, rc0, rc0a, rc0b, rc0c, rc0n]; done))) (fun hHeld => ?_); clear hK K; try simp only [Act.put, List.setIfInBounds_toArray, List.set_cons_zero, List.set_cons_succ]
    refine wpAnyH_done (by kernel_rfl) ?_ _
    go_wp2_with fail
    go_ret
    refine ⟨rfl, ?_, (by repeat (first | with_reducible exact But.ofExt X1.out | with_reducible refine But.drew ?_ | with_reducible refine But.drewN ?_ _ | with_reducible refine But.alloc ?_ _ | with_reducible refine But.setG ?_ _ | with_reducible refine But.setNew ?_ (by first | omega | (simp; done) | (simp; omega)) _))⟩
    repeat (first | with_reducible exact HR.out | with_reducible refine RRd.setF (k := k) ?_ hE0.out | with_reducible refine RRd.set ?_ (by omega) _ | (with_reducible refine RRd.ext ?_ (Ext.alloc (Ext.refl _) _)))
theorem rU_old (g k : Nat) (L : List Nat) (x : Int × Int) (w : World) (h : RRd w g L k (some x)) :
    Calls Tryz.prog 45 #[.pointer (some ⟨g, 0, none⟩)] w fun r w' => r = .returned (.int .u64 0) ∧ w = w' := by
  have H2 := h.c2
  have hz : (fltE (some x) == 0) = false := beq_false_of_ne (h.nz x rfl)
  have hz2 : (fltE (some x) != 0) = true := by simpa [fltE] using h.nz x rfl
  generalize fltE (some x) = z at *
  clear h
  go_enter Tryz.func45, Tryz.ntmps45
  go_wp2
  go_ret
  exact ⟨rfl, rfl⟩
/-- the bytes of a number are bytes of the list -/
theorem numGo_le : ∀ (L : List Nat) (i acc n k : Nat), numGo L i acc = (n, k, 0) → k ≤ i + L.length := by
  intro L
  induction L with
  | nil => intro i acc n k h; simp [numGo] at h
  | cons c l ih =>
    intro i acc n k h
    rw [numGo] at h
    split at h
    · simp at h
    · split at h
      · simp at h; rw [List.length_cons]; omega
      · have := ih _ _ _ _ h; rw [List.length_cons]; omega
theorem numGo_bad : ∀ (L : List Nat) (i acc n k : Nat) (e : Int), numGo L i acc = (n, k, e) → ¬ e = 0 → n = 0 ∧ k = 0 := by
  intro L
  induction L with
  | nil => intro i acc n k e h _; simp [numGo] at h; omega
  | cons c l ih =>
    intro i acc n k e h he
    rw [numGo] at h
    split at h
    · simp at h; omega
    · split at h
      · simp at h; omega
      · exact ih _ _ _ _ _ h he
theorem rU_any (g k : Nat) (L : List Nat) (f : Option (Int × Int)) (hL : L.length < 1099511627776) (w : World) (h : RRd w g L k f) :
    Calls Tryz.prog 45 #[.pointer (some ⟨g, 0, none⟩)] w fun r w' => r = .returned (.int .u64 (ruV L k f)) ∧ RRd w' g L (ruK L k f) (ruF L k f) ∧ But (· = g) w w' := by
  cases f with
  | some x =>
    refine (rU_old g k L x w h).mono ?_
    rintro r w' ⟨rfl, rfl⟩
    unfold ruV ruK ruF
    exact ⟨by simp, by simpa using h, But.refl _ _⟩
  | none =>
    obtain ⟨A, c, H0, hs, _⟩ := h.b
    have hg := fun w' (h' : RRd w' g L k none) (hs' : Sl w' 1 A L.length c (by_ L)) => rGet_any A L.length c k L w' hs' h.byt h.le hL
    obtain ⟨n, j, e, hx⟩ : ∃ n j e, numGo (L.drop k) 0 0 = (n, j, e) := ⟨_, _, _, rfl⟩
    have hle := h.le
    unfold ruV ruK ruF ruE
    rw [hx] at hg ⊢
    by_cases he : e = 0
    · subst he
      have h1 := numGo_le _ _ _ _ _ hx
      rw [List.length_drop] at h1
      simp only [true_and, if_true]
      refine rU_ok g L.length c k A L (k + j) (by omega) n w h H0 hs (Lib.hid fun w' h' hs' => ?_)
      refine (hg w' h' hs').mono ?_
      rintro r w'' ⟨rfl, h2⟩
      exact ⟨by simp [gtV], h2⟩
    · obtain ⟨rfl, rfl⟩ := numGo_bad _ _ _ _ _ _ hx he
      simp only [true_and, if_neg he]
      have e1 : failF none e (k : Int) = some (e, (k : Int)) := by unfold failF; simp [he]
      simp only [if_true, e1]
      refine rU_bad g L.length c k A L e (beq_false_of_ne he) (by simpa using he) (Lib.hid he) w h H0 hs (Lib.hid fun w' h' hs' => ?_)
      refine (hg w' h' hs').mono ?_
      rintro r w'' ⟨rfl, h2⟩
      exact ⟨by simp [gtV, he], h2⟩
theorem RRd.anyK {w : World} {g k k' : Nat} {L : List Nat} {f : Option (Int × Int)} (h : RRd w g L k f) (hf : ¬ f = none) (hk : k' ≤ L.length) : RRd w g L k' f := by
  obtain ⟨t, h3, h4, h5⟩ := h.c1
  exact ⟨h.b, ⟨t, h3, h4, fun e => absurd e hf⟩, h.c2, h.c3, h.f1, h.f2, h.f3, h.lt, hk, h.byt, h.nz, h.ty⟩
theorem numGo_lt' : ∀ (L : List Nat) (i acc : Nat), i ≤ 9 → acc < 2 ^ (7 * i) → Byt L → (numGo L i acc).1 < 18446744073709551616 := by
  intro L
  induction L with
  | nil => intro i acc _ _ _; simp [numGo]
  | cons c l ih =>
    intro i acc hi ha hB
    have hc := hB c (List.mem_cons_self ..)
    rw [numGo]
    split
    · simp
    · rename_i hcond
      have hs := fun (h9 : i = 9 → c % 128 ≤ 1) => acc_small (c := c % 128) ha hi (by omega) h9
      split
      · rename_i h1
        exact (hs (by omega)).2
      · exact ih _ _ (by omega) (acc_step ha (by omega)) (fun x hx => hB x (List.mem_cons_of_mem _ hx))
set_option maxRecDepth 100000 in
set_option maxHeartbeats 1000000 in
theorem rN_flt (g k : Nat) (L : List Nat) (least most : Int) (h2 : 0 ≤ most) (h3 : most ≤ 9223372036854775807) (f : Option (Int × Int)) (x : Int × Int) (n : Int) (hx : (fltE (some x) == 0) = false) (hx2 : (fltE (some x) != 0) = true) (w : World) (h : RRd w g L k f)
    (CU : Hid (∀ w, RRd w g L k f → Calls Tryz.prog 45 #[.pointer (some ⟨g, 0, none⟩)] w fun r w' => r = .returned (.int .u64 n) ∧ RRd w' g L k (some x) ∧ But (· = g) w w')) :
    Calls Tryz.prog 42 #[.pointer (some ⟨g, 0, none⟩), .int .i64 least, .int .i64 most] w fun r w' => r = .returned (.int .i64 0) ∧ RRd w' g L k (some x) ∧ But (· = g) w w' := by
  obtain ⟨t, g1, _, ht⟩ := h.c1
  have H0 := Lib.hid h
  have hmax : ∀ ts t w, (Builtin.max_ ts t #[.int .i64 most, .int .i64 0]).run Tryz.prog w = .ok (.int .i64 most) w := by
    intro ts t w
    rw [run_max_int2, if_neg (by omega)]
  have hmn : decide (most < 0) = false := decide_eq_false (by omega)
  clear h ht
  go_enter Tryz.func42, Tryz.ntmps42
  go_wp2_with fail
  (with_reducible refine (CU.out _ H0.out).mono ?_)
  rintro r w1 ⟨rfl, hr1, hb1⟩
  have g2 := hr1.c2
  have HR := Lib.hid hr1
  have HB := Lib.hid hb1
  generalize fltE (some x) = z at *
  clear hr1 hb1 H0 CU
  go_wp2_with fail
  go_ret
  exact ⟨rfl, HR.out, HB.out⟩
set_option maxRecDepth 100000 in
set_option maxHeartbeats 1000000 in
theorem rN_ok (g k k1 : Nat) (L : List Nat) (least most : Int) (h2 : 0 ≤ most) (h3 : most ≤ 9223372036854775807) (n : Nat) (hn : n < 18446744073709551616) (hm : ¬ most < (n : Int)) (hl : decide (0 < least) = false ∨ (decide (0 < least) = true ∧ decide ((n : Int) < least) = false)) (hl2 : least ≤ 9223372036854775807) (hl5 : 0 ≤ least) (w : World) (h : RRd w g L k none)
    (CU : Hid (∀ w, RRd w g L k none → Calls Tryz.prog 45 #[.pointer (some ⟨g, 0, none⟩)] w fun r w' => r = .returned (.int .u64 (n : Int)) ∧ RRd w' g L k1 none ∧ But (· = g) w w')) :
    Calls Tryz.prog 42 #[.pointer (some ⟨g, 0, none⟩), .int .i64 least, .int .i64 most] w fun r w' => r = .returned (.int .i64 (n : Int)) ∧ RRd w' g L k1 none ∧ But (· = g) w w' := by
  obtain ⟨t, g1, _, ht⟩ := h.c1
  have H0 := Lib.hid h
  have hmax : ∀ ts t w, (Builtin.max_ ts t #[.int .i64 most, .int .i64 0]).run Tryz.prog w = .ok (.int .i64 most) w := by
    intro ts t w
    rw [run_max_int2, if_neg (by omega)]
  have hmn : decide (most < 0) = false := decide_eq_false (by omega)
  have hmb : decide (most < (n : Int)) = false := decide_eq_false hm
  have hn0 : (n : Int) ≤ 9223372036854775807 := by omega
  have hn1 : (0 : Int) ≤ (n : Int) := by omega
  clear h ht hm hn
  rcases hl with hl | ⟨hl, hl3⟩
  · go_enter Tryz.func42, Tryz.ntmps42
    go_wp2_with fail
    (with_reducible refine (CU.out _ H0.out).mono ?_)
    rintro r w1 ⟨rfl, hr1, hb1⟩
    have g2 := hr1.c2
    have HR := Lib.hid hr1
    have HB := Lib.hid hb1
    change w1.cell? ⟨g, 2, none⟩ = some (.int .i64 0) at g2
    clear hr1 hb1 H0 CU
    go_wp2_with fail
    go_ret
    exact ⟨rfl, HR.out, HB.out⟩
  · go_enter Tryz.func42, Tryz.ntmps42
    go_wp2_with fail
    (with_reducible refine (CU.out _ H0.out).mono ?_)
    rintro r w1 ⟨rfl, hr1, hb1⟩
    have g2 := hr1.c2
    have HR := Lib.hid hr1
    have HB := Lib.hid hb1
    change w1.cell? ⟨g, 2, none⟩ = some (.int .i64 0) at g2
    clear hr1 hb1 H0 CU
    go_wp2_with fail
    go_ret
    exact ⟨rfl, HR.out, HB.out⟩
set_option maxRecDepth 100000 in
set_option maxHeartbeats 1000000 in
theorem rN_hi (g k k1 : Nat) (L : List Nat) (least most : Int) (h2 : 0 ≤ most) (h3 : most ≤ 9223372036854775807) (n : Nat) (hn : n < 18446744073709551616) (hm : most < (n : Int)) (hk : k ≤ L.length) (w : World) (h : RRd w g L k none)
    (CU : Hid (∀ w, RRd w g L k none → Calls Tryz.prog 45 #[.pointer (some ⟨g, 0, none⟩)] w fun r w' => r = .returned (.int .u64 (n : Int)) ∧ RRd w' g L k1 none ∧ But (· = g) w w')) :
    Calls Tryz.prog 42 #[.pointer (some ⟨g, 0, none⟩), .int .i64 least, .int .i64 most] w fun r w' => r = .returned (.int .i64 0) ∧ RRd w' g L k (failF none 3 k) ∧ But (· = g) w w' := by
  obtain ⟨t, g1, _, ht⟩ := h.c1
  have H0 := Lib.hid h
  have hmax : ∀ ts t w, (Builtin.max_ ts t #[.int .i64 most, .int .i64 0]).run Tryz.prog w = .ok (.int .i64 most) w := by
    intro ts t w
    rw [run_max_int2, if_neg (by omega)]
  have hmn : decide (most < 0) = false := decide_eq_false (by omega)
  have hmb : decide (most < (n : Int)) = true := decide_eq_true hm
  have HT := Lib.hid (show t = k from ht rfl)
  have hn2 : (n : Int) < 18446744073709551616 := by omega
  clear h ht hm hn
  go_enter Tryz.func42, Tryz.ntmps42
  go_wp2_with fail
  (with_reducible refine (CU.out _ H0.out).mono ?_)
  rintro r w1 ⟨rfl, hr1, hb1⟩
  have g2 := hr1.c2
  have HR := Lib.hid hr1
  have HB := Lib.hid hb1
  change w1.cell? ⟨g, 2, none⟩ = some (.int .i64 0) at g2
  clear hr1 hb1 H0 CU
  go_wp2_with fail
  (with_reducible refine (rFail_any g k1 L none 3 _ _ HR.out).mono ?_)
  rintro r w2 ⟨⟨v, rfl⟩, hr2, hb2⟩
  have g3 := hr2.c2
  have H2 := Lib.hid (And.intro hr2 hb2)
  clear hr2 hb2
  change w2.cell? ⟨g, 2, none⟩ = some (.int .i64 3) at g3
  go_wp2_with fail
  go_ret
  refine ⟨rfl, ?_, HB.out.trans H2.out.2⟩
  have hh := H2.out.1
  rw [HT.out] at hh
  exact hh.anyK (by simp [failF]) hk
set_option maxRecDepth 100000 in
set_option maxHeartbeats 1000000 in
theorem rN_lo (g k k1 : Nat) (L : List Nat) (least most : Int) (h2 : 0 ≤ most) (h3 : most ≤ 9223372036854775807) (n : Nat) (hm : ¬ most < (n : Int)) (hl0 : 0 < least) (hl1 : (n : Int) < least) (hl2 : least ≤ 9223372036854775807) (hk : k ≤ L.length) (w : World) (h : RRd w g L k none)
    (CU : Hid (∀ w, RRd w g L k none → Calls Tryz.prog 45 #[.pointer (some ⟨g, 0, none⟩)] w fun r w' => r = .returned (.int .u64 (n : Int)) ∧ RRd w' g L k1 none ∧ But (· = g) w w')) :
    Calls Tryz.prog 42 #[.pointer (some ⟨g, 0, none⟩), .int .i64 least, .int .i64 most] w fun r w' => r = .returned (.int .i64 0) ∧ RRd w' g L k (failF none 3 k) ∧ But (· = g) w w' := by
  obtain ⟨t, g1, _, ht⟩ := h.c1
  have H0 := Lib.hid h
  have hmax : ∀ ts t w, (Builtin.max_ ts t #[.int .i64 most, .int .i64 0]).run Tryz.prog w = .ok (.int .i64 most) w := by
    intro ts t w
    rw [run_max_int2, if_neg (by omega)]
  have hmn : decide (most < 0) = false := decide_eq_false (by omega)
  have hmb : decide (most < (n : Int)) = false := decide_eq_false hm
  have hl3 : decide (0 < least) = true := decide_eq_true hl0
  have hl4 : decide ((n : Int) < least) = true := decide_eq_true hl1
  have hl5 : (0 : Int) ≤ least := by omega
  have HT := Lib.hid (show t = k from ht rfl)
  clear h ht hm hl0 hl1
  go_enter Tryz.func42, Tryz.ntmps42
  go_wp2_with fail
  (with_reducible refine (CU.out _ H0.out).mono ?_)
  rintro r w1 ⟨rfl, hr1, hb1⟩
  have g2 := hr1.c2
  have HR := Lib.hid hr1
  have HB := Lib.hid hb1
  change w1.cell? ⟨g, 2, none⟩ = some (.int .i64 0) at g2
  clear hr1 hb1 H0 CU
  go_wp2_with fail
  (with_reducible refine (rFail_any g k1 L none 3 _ _ HR.out).mono ?_)
  rintro r w2 ⟨⟨v, rfl⟩, hr2, hb2⟩
  have g3 := hr2.c2
  have H2 := Lib.hid (And.intro hr2 hb2)
  clear hr2 hb2
  change w2.cell? ⟨g, 2, none⟩ = some (.int .i64 3) at g3
  go_wp2_with fail
  go_ret
  refine ⟨rfl, ?_, HB.out.trans H2.out.2⟩
  have hh := H2.out.1
  rw [HT.out] at hh
  exact hh.anyK (by simp [failF]) hk
theorem rN_any (g k : Nat) (L : List Nat) (f : Option (Int × Int)) (least most : Int) (h0 : 0 ≤ least) (h1 : least ≤ 9223372036854775807) (h2 : 0 ≤ most) (h3 : most ≤ 9223372036854775807) (hL : L.length < 1099511627776) (w : World) (h : RRd w g L k f) :
    Calls Tryz.prog 42 #[.pointer (some ⟨g, 0, none⟩), .int .i64 least, .int .i64 most] w fun r w' => r = .returned (.int .i64 (rnV L k f least most)) ∧ RRd w' g L (rnK L k f least most) (rnF L k f least most) ∧ But (· = g) w w' := by
  have CU := fun w h => rU_any g k L f hL w h
  have hk := h.le
  cases f with
  | some x =>
    have e1 : ruV L k (some x) = 0 := by unfold ruV; simp
    have e2 : ruK L k (some x) = k := by unfold ruK; simp
    have e3 : ruF L k (some x) = some x := by unfold ruF; simp
    rw [e1, e2, e3] at CU
    have f1 : rnV L k (some x) least most = 0 := by unfold rnV; simp
    have f2 : rnK L k (some x) least most = k := by unfold rnK; simp
    rw [f1, f2, rnF_some]
    exact rN_flt g k L least most h2 h3 (some x) x 0 (beq_false_of_ne (h.nz x rfl)) (by simpa [fltE] using h.nz x rfl) w h (Lib.hid CU)
  | none =>
    obtain ⟨n, j, e, hx⟩ : ∃ n j e, numGo (L.drop k) 0 0 = (n, j, e) := ⟨_, _, _, rfl⟩
    have hn : n < 18446744073709551616 := by
      have := numGo_lt' (L.drop k) 0 0 (by decide) (by decide) (fun x hx => h.byt x (List.mem_of_mem_drop hx))
      rw [hx] at this
      exact this
    unfold rnV rnK rnF rnE
    unfold ruV ruK ruF ruE at CU
    rw [hx] at CU ⊢
    simp only [true_and, if_true] at CU ⊢
    by_cases he : e = 0
    · subst he
      simp only [if_true] at CU
      have e0 : failF none 0 (k : Int) = none := by simp [failF]
      rw [e0] at CU
      by_cases hb : bndE 0 n least most = 0
      · rw [hb]
        simp only [if_true]
        rw [e0]
        unfold bndE at hb
        simp only [if_true] at hb
        have hc : ¬ (most < (n : Int) ∨ (0 < least ∧ (n : Int) < least)) := by
          intro hh; rw [if_pos hh] at hb; omega
        refine rN_ok g k (k + j) L least most h2 h3 n hn (by omega) ?_ h1 h0 w h (Lib.hid CU)
        by_cases hl : 0 < least
        · exact .inr ⟨decide_eq_true hl, decide_eq_false (by omega)⟩
        · exact .inl (decide_eq_false hl)
      · have hb3 : bndE 0 n least most = 3 := by
          unfold bndE at hb ⊢
          simp only [if_true] at hb ⊢
          split <;> simp_all
        rw [if_neg hb, if_neg hb, hb3]
        have hc : most < (n : Int) ∨ (0 < least ∧ (n : Int) < least) := by
          unfold bndE at hb3
          simp only [if_true] at hb3
          split at hb3
          · assumption
          · omega
        by_cases hm : most < (n : Int)
        · exact rN_hi g k (k + j) L least most h2 h3 n hn hm hk w h (Lib.hid CU)
        · exact rN_lo g k (k + j) L least most h2 h3 n hm (by omega) (by omega) h1 hk w h (Lib.hid CU)
    · have hb : bndE e n least most = e := by unfold bndE; rw [if_neg he]
      rw [hb, if_neg he, if_neg he]
      rw [if_neg he, if_neg he] at CU
      have e1 : failF none e (k : Int) = some (e, (k : Int)) := by unfold failF; simp [he]
      rw [e1] at CU ⊢
      exact rN_flt g k L least most h2 h3 none (e, (k : Int)) _ (beq_false_of_ne he) (by simpa [fltE] using he) w h (Lib.hid CU)
end
section
open Go.RowKit
def SlB (B : Nat) (w : World) (sz : Nat) (A : Option Addr) (n c : Nat) (xs : List Value) : Prop := Sl w sz A n c xs ∧ (0 < n → ∀ b o s, A = some ⟨b, o, s⟩ → b < B)
section
variable {B : Nat} {S : Nat → Prop} {w w' : World} {sz n c : Nat} {A : Option Addr} {xs : List Value}
theorem SlB.sl (h : SlB B w sz A n c xs) : Sl w sz A n c xs := h.1
theorem Sl.low (h : Sl w sz A n c xs) : SlB w.heap.size w sz A n c xs := by
  refine ⟨h, fun hn b o s e => ?_⟩
  obtain ⟨b', o', e', hb, _⟩ := h.at_ hn
  rw [e] at e'
  injection e' with e'
  injection e' with e1
  omega
theorem SlB.raise (h : SlB B w sz A n c xs) : SlB w.heap.size w sz A n c xs := Sl.low h.1
theorem SlB.ext (h : SlB B w sz A n c xs) (hx : Ext w w') : SlB B w' sz A n c xs := ⟨h.1.ext hx, h.2⟩
theorem SlB.but (h : SlB B w sz A n c xs) (hx : But S w w') (hs : ∀ k, S k → B ≤ k) : SlB B w' sz A n c xs := by
  refine ⟨⟨h.1.1, h.1.2.1, h.1.2.2.1, fun hn => ?_⟩, h.2⟩
  obtain ⟨b, o, e, hb, hc⟩ := h.1.at_ hn
  have hS : ¬ S b := fun hs' => by have := hs b hs'; have := h.2 hn b o none e; omega
  exact ⟨b, o, e, by have := hx.size; omega, fun j u hu => hx.has hS (hc j u hu)⟩
end
end
section
open Go.RowKit
theorem Wr.ext {w w' : World} {g : Nat} {lim err : Int} {L : List Nat} (h : Wr w g lim err L) (hb : Ext w w') : Wr w' g lim err L := h.keep hb
theorem Rd.ext {w w' : World} {g k : Nat} {L : List Nat} {flt : Option (Int × Int)} (h : Rd w g L k flt) (hb : Ext w w') : Rd w' g L k flt := h.keep hb
def RdPU (g : Nat) (L : List Nat) (W : World) (v : Int) (k : Nat) (flt : Option (Int × Int)) (r : Ending) (w' : World) : Prop := r = .returned (.int .u64 v) ∧ Rd w' g L k flt ∧ But (· = g) W w'
theorem creadU_old (g k : Nat) (L : List Nat) (x : Int × Int) (v : Value) (w : World) (h : Rd w g L k (some x)) :
    Calls Tryz.prog 72 #[.pointer (some ⟨g, 0, none⟩), v] w fun r w' => r = .returned (.int .u64 0) ∧ w = w' := by
  have H2 := h.c2
  obtain ⟨v, H3, fb, rfl, _⟩ := h.c3
  clear h
  go_enter Tryz.func72, Tryz.ntmps72
  go_wp2_with fail
  refine (cnone_any g _ H2).mono ?_
  rintro r w1 ⟨rfl, rfl⟩
  go_wp2
  go_ret
  exact ⟨rfl, rfl⟩
set_option maxRecDepth 100000 in
set_option maxHeartbeats 1000000 in
theorem creadU_go (g k : Nat) (L : List Nat) (n kk e : Int) (W : World) (h : Rd W g L k none) (hle : 0 ≤ kk) (hk2 : (k : Int) + kk ≤ L.length) (hL : L.length < 1099511627776)
    (CN : Hid (∀ (A : Option Addr) (c : Nat) (w : World), Sl w 1 A (L.length - k) c (by_ (L.drop k)) → (∀ b, w.cell? b = W.cell? b) → Calls Tryz.prog 69 #[.slice A (L.length - k) c] w fun r w' => r = .returned (.tuple #[.int .u64 n, .int .i64 kk, .int .i64 e]) ∧ w = w')) :
    Calls Tryz.prog 72 #[.pointer (some ⟨g, 0, none⟩), .func (.func 69) #[] #[]] W fun r w' => r = .returned (.int .u64 (if e = 0 then n else 0)) ∧ Rd w' g L (if e = 0 then k + kk.toNat else k) (failF none e k) ∧ But (· = g) W w' := by
  have H2 := h.c2
  have H1 := h.c1
  obtain ⟨v, H3, rfl⟩ := h.c3
  obtain ⟨A, c, H0, hs, _⟩ := h.b
  have hkl := h.le
  have hd := Lib.hid (hs.bdrop hkl)
  have F1 := h.f1
  have HH := Lib.hid h
  have hsm := hs.small
  have hcs : L.length ≤ c := hs.2.1
  clear h hs
  generalize hN : L.length = N at *
  replace hN := Lib.hid hN
  obtain ⟨A2, hA2⟩ : ∃ A2, A2 = (if c = k then A else A.map (·.add (k * 1))) := ⟨_, rfl⟩
  rw [← hA2] at hd
  have hsl : ∀ w, (Instr.slice 23 (.slice A N c) (some (.int .i64 (k : Int))) none none).run Tryz.prog w = .ok (.slice A2 (N - k) (c - k)) w := by
    intro w
    have hq := run_slice_l (P := Tryz.prog) (w := w) 23 A N c (by kernel_rfl) .i64 (k : Int) (by omega) (by omega)
    rw [hq, hA2]
    simp [go_sem, sizeOf_u8 w]
  replace hA2 := Lib.hid hA2
  have hkI : (k : Int) ≤ N := by omega
  by_cases he : e = 0
  · subst he
    rw [if_pos rfl, if_pos rfl]
    show Calls _ _ _ _ (RdPU g L W n (k + kk.toNat) none)
    go_enter Tryz.func72, Tryz.ntmps72
    go_wp2_with fail
    refine (cnone_any g _ H2).mono ?_
    rintro r w1 ⟨rfl, rfl⟩
    go_wp2_with fail
    go_quiet ((go_at_call 69; exact Calls.quiet_of_same ((CN.out A2 (c - k) _ (hd.out.ext ((Ext.refl _).drewN _)) (fun _ => rfl)).mono fun r w' h => ⟨h.1, h.2.symm⟩)))
    have hkk : (k : Int) + kk < 9223372036854775808 := by omega
    go_wp2
    go_ret
    refine ⟨rfl, ?_, ((But.refl (· = g) W).drewN nq).setCell (p := ⟨g, 1, none⟩) (show g = g from rfl) _⟩
    have hh := (HH.out.drewN nq).setAt (k + kk.toNat) (by rw [hN.out]; omega)
    rw [show ((k + kk.toNat : Nat) : Int) = (k : Int) + kk from by omega] at hh
    exact hh
  · have hef : (e == 0) = false := beq_false_of_ne he
    rw [if_neg he, if_neg he]
    show Calls _ _ _ _ (RdPU g L W 0 k (failF none e k))
    go_enter Tryz.func72, Tryz.ntmps72
    go_wp2_with fail
    refine (cnone_any g _ H2).mono ?_
    rintro r w1 ⟨rfl, rfl⟩
    go_wp2_with fail
    go_quiet ((go_at_call 69; exact Calls.quiet_of_same ((CN.out A2 (c - k) _ (hd.out.ext ((Ext.refl _).drewN _)) (fun _ => rfl)).mono fun r w' h => ⟨h.1, h.2.symm⟩)))
    have CF := Lib.hid (cFail_any g k L none e k _ (HH.out.drewN nq))
    clear he
    go_wp2_with fail
    refine CF.out.mono ?_
    rintro r w1 ⟨⟨v, rfl⟩, hr, hb⟩
    have HR := Lib.hid (And.intro hr hb)
    clear hr hb CF
    go_wp2_with fail
    go_ret
    exact ⟨rfl, HR.out.1, ((But.refl _ W).drewN nq).trans HR.out.2⟩
theorem cU_main (g k : Nat) (L : List Nat) (f : Option (Int × Int)) (hL : L.length < 1099511627776) (w : World) (h : Rd w g L k f) :
    Calls Tryz.prog 72 #[.pointer (some ⟨g, 0, none⟩), .func (.func 69) #[] #[]] w (RdPU g L w (ruV L k f) (ruK L k f) (ruF L k f)) := by
  cases f with
  | some x =>
    refine (creadU_old g k L x _ w h).mono ?_
    rintro r w' ⟨rfl, rfl⟩
    unfold ruV ruK ruF RdPU
    exact ⟨by simp, by simpa using h, But.refl _ _⟩
  | none =>
    have hn := numGo_lt (L.drop k) 0 0 (by decide) (by decide)
    have hlen : (L.drop k).length = L.length - k := List.length_drop ..
    have hkl := h.le
    have C := creadU_go g k L ((numGo (L.drop k) 0 0).1 : Int) ((numGo (L.drop k) 0 0).2.1 : Int) (ruE L k) w h (by omega) (by have := hn.2.1; omega) hL
      (Lib.hid fun A c w' hs _ => cnumber_any A (L.length - k) c (L.drop k) w' hs (h.byt.drop k))
    refine C.mono ?_
    rintro r w' ⟨hr1, hr2, hr3⟩
    unfold ruV ruK ruF
    by_cases he : ruE L k = 0
    · rw [if_pos he] at hr1 hr2
      rw [he] at hr2 ⊢
      refine ⟨?_, ?_, hr3⟩
      · rw [hr1]; simp
      · simpa using hr2
    · rw [if_neg he] at hr1 hr2
      refine ⟨?_, ?_, hr3⟩
      · rw [hr1]; simp [he]
      · simpa [he] using hr2
theorem cU_any (g k : Nat) (L : List Nat) (f : Option (Int × Int)) (hL : L.length < 1099511627776) (w : World) (h : Rd w g L k f) :
    Calls Tryz.prog 35 #[.pointer (some ⟨g, 0, none⟩)] w (RdPU g L w (ruV L k f) (ruK L k f) (ruF L k f)) := by
  have main := Lib.hid (cU_main g k L f hL w h)
  clear h
  go_enter Tryz.func35, Tryz.ntmps35
  go_wp2_with fail
  refine main.out.mono ?_
  rintro r w1 ⟨rfl, hr1, hr2⟩
  have H := Lib.hid (show RdPU g L w (ruV L k f) (ruK L k f) (ruF L k f) (.returned (.int .u64 (ruV L k f))) w1 from ⟨rfl, hr1, hr2⟩)
  clear hr1 hr2 main
  go_wp2_with fail
  go_ret
  exact H.out
theorem rWU_any (g : Nat) (lim e : Int) (L : List Nat) (N : Nat) (hN : N < 18446744073709551616) (w : World) (h : RWr w g lim e L) :
    Calls Tryz.prog 29 #[.pointer (some ⟨g, 0, none⟩), .int .u64 (N : Int)] w fun r w' => r = .returned (.int .i64 (wAddE lim e L (putL N))) ∧ RWr w' g lim (wAddE lim e L (putL N)) (wAddL lim e L (putL N)) ∧ Below g w w' := by
  have H := Lib.hid h
  have CP := Lib.hid (fun w => rPut_any N (by omega) w)
  have hp : (putL N).length ≤ 1048576 := by have := putL_len N 9 (by omega); omega
  have HP := Lib.hid hp
  obtain ⟨E, hE⟩ : ∃ E, E = wAddE lim e L (putL N) := ⟨_, rfl⟩
  obtain ⟨M, hM⟩ : ∃ M, M = wAddL lim e L (putL N) := ⟨_, rfl⟩
  rw [← hE, ← hM]
  have HE := Lib.hid (And.intro hE hM)
  clear h hE hM hp hN
  go_enter Tryz.func29, Tryz.ntmps29
  go_wp2_with fail
  refine (CP.out _).mono ?_
  rintro r w1 ⟨v, rfl, h1, hx1⟩
  obtain ⟨A1, c1, rfl, s1⟩ := own_parts h1
  have C := rWAdd_any g lim e L (putL N) A1 (putL N).length c1 w1 (H.out.keep hx1) s1 HP.out
  rw [← HE.out.1, ← HE.out.2] at C
  replace C := Lib.hid C
  have X1 := Lib.hid (And.intro hx1 H.out.lt)
  clear h1 s1 hx1
  go_wp2_with fail
  refine C.out.mono ?_
  rintro r w2 ⟨rfl, hw2, hb2⟩
  have W2 := Lib.hid (And.intro hw2 hb2)
  clear hw2 hb2 C
  go_wp2_with fail
  go_ret
  exact ⟨rfl, W2.out.1, (X1.out.1.mono (by have := X1.out.2; omega)).trans W2.out.2⟩
/-- a write that fits -/
theorem wAdd_fit {lim : Int} {L b : List Nat} (h : (L.length : Int) + b.length ≤ lim) : wAddE lim 0 L b = 0 ∧ wAddL lim 0 L b = L ++ b := by
  have e : wAddE lim 0 L b = 0 := by unfold wAddE; rw [if_pos rfl, if_neg (by omega)]
  exact ⟨e, by unfold wAddL; rw [e, if_pos rfl]⟩
theorem putL_ten {N : Nat} (hN : N < 18446744073709551616) : (putL N).length ≤ 10 := by have := putL_len N 9 (by omega); omega
theorem But.ofBelow {g : Nat} {w w' : World} (h : Below g w w') : But (fun k => g ≤ k) w w' := ⟨h.os, h.tape, h.output, h.size, fun k _ hs => h.block k (by have h2 : ¬ g ≤ k := hs; omega)⟩
/-- the writer at g does not have the block q -/
def Off (w : World) (g o q : Nat) : Prop := g < w.heap.size ∧ q < w.heap.size ∧ ¬ Sg w g o q
theorem Off.ext {w w' : World} {g o q : Nat} (h : Off w g o q) (hx : Ext w w') : Off w' g o q :=
  ⟨by have := h.1; have := hx.size; omega, by have := h.2.1; have := hx.size; omega, fun hs => h.2.2 ((Sg.congr (hx.cells.1 g o h.1)).1 hs)⟩
theorem Off.wf {w w' : World} {g o q : Nat} (h : Off w g o q) (hx : WF g o w w') : Off w' g o q :=
  ⟨by have := h.1; have := hx.but.size; omega, by have := h.2.1; have := hx.but.size; omega, fun hs => h.2.2 (hx.row q h.2.1 hs)⟩
theorem Off.new {w w' : World} {g q : Nat} {lim e : Int} {L : List Nat} (h : Wr w g lim e L) (hq : w.heap.size ≤ q) (hx : Ext w w') (hq2 : q < w'.heap.size) : Off w' g 0 q :=
  ⟨by have := h.lt; have := hx.size; omega, hq2, fun hs => by have := Wr.sg h ((Sg.congr (hx.cells.1 g 0 h.lt)).1 hs); omega⟩
theorem WF.box {w w' : World} {g q : Nat} {lim e : Int} {L : List Nat} (hw : Wr w g lim e L) (hq : Off w g 0 q) (hx : WF g 0 w w') : But (fun k => k ≠ q ∧ g ≤ k) w w' :=
  hx.but.mono fun k _ hs => ⟨fun e => hq.2.2 (e ▸ hs), (Wr.sg hw hs).1⟩
theorem cWN_fit (g : Nat) (lim : Int) (L : List Nat) (n : Int) (h0 : 0 ≤ n) (h1 : n < 9223372036854775808) (hf : (L.length : Int) + 10 ≤ lim) (w : World) (h : Wr w g lim 0 L) :
    Calls Tryz.prog 21 #[.pointer (some ⟨g, 0, none⟩), .int .i64 n] w fun r w' => r = .returned (.int .i64 0) ∧ Wr w' g lim 0 (L ++ putL n.toNat) ∧ But (fun k => g ≤ k) w w' := by
  obtain ⟨N, rfl⟩ : ∃ N : Nat, n = (N : Int) := ⟨n.toNat, by omega⟩
  rw [show ((N : Int)).toNat = N from by simp]
  have hb := putL_ten (N := N) (by omega)
  obtain ⟨e1, e2⟩ := wAdd_fit (lim := lim) (L := L) (b := putL N) (by omega)
  have hc := cWN_pos g lim L N (by omega) w h
  rw [e1, e2] at hc
  refine hc.mono ?_
  rintro r w' ⟨h1, h2, h3⟩
  exact ⟨h1, h2, But.ofBelow h3⟩
theorem rWU_fit (g : Nat) (lim : Int) (L : List Nat) (n : Int) (h0 : 0 ≤ n) (h1 : n < 18446744073709551616) (hf : (L.length : Int) + 10 ≤ lim) (w : World) (h : RWr w g lim 0 L) :
    Calls Tryz.prog 29 #[.pointer (some ⟨g, 0, none⟩), .int .u64 n] w fun r w' => r = .returned (.int .i64 0) ∧ RWr w' g lim 0 (L ++ putL n.toNat) ∧ But (fun k => g ≤ k) w w' := by
  obtain ⟨N, rfl⟩ : ∃ N : Nat, n = (N : Int) := ⟨n.toNat, by omega⟩
  rw [show ((N : Int)).toNat = N from by simp]
  have hb := putL_ten (N := N) (by omega)
  obtain ⟨e1, e2⟩ := wAdd_fit (lim := lim) (L := L) (b := putL N) (by omega)
  have hc := rWU_any g lim 0 L N (by omega) w h
  rw [e1, e2] at hc
  refine hc.mono ?_
  rintro r w' ⟨h1, h2, h3⟩
  exact ⟨h1, h2, But.ofBelow h3⟩
theorem rWN_fit (g : Nat) (lim : Int) (L : List Nat) (n : Int) (h0 : 0 ≤ n) (h1 : n < 9223372036854775808) (hf : (L.length : Int) + 10 ≤ lim) (w : World) (h : RWr w g lim 0 L) :
    Calls Tryz.prog 27 #[.pointer (some ⟨g, 0, none⟩), .int .i64 n] w fun r w' => r = .returned (.int .i64 0) ∧ RWr w' g lim 0 (L ++ putL n.toNat) ∧ But (fun k => g ≤ k) w w' := by
  obtain ⟨N, rfl⟩ : ∃ N : Nat, n = (N : Int) := ⟨n.toNat, by omega⟩
  rw [show ((N : Int)).toNat = N from by simp]
  have hb := putL_ten (N := N) (by omega)
  obtain ⟨e1, e2⟩ := wAdd_fit (lim := lim) (L := L) (b := putL N) (by omega)
  have hc := rWN_pos g lim 0 L N (by omega) w h
  rw [e1, e2] at hc
  refine hc.mono ?_
  rintro r w' ⟨h1, h2, h3⟩
  exact ⟨h1, h2, But.ofBelow h3⟩
theorem cWU_box (g q : Nat) (lim : Int) (L : List Nat) (n : Int) (h0 : 0 ≤ n) (h1 : n < 18446744073709551616) (hf : (L.length : Int) + 10 ≤ lim) (w : World) (h : Wr w g lim 0 L) (hq : Off w g 0 q) :
    Calls Tryz.prog 23 #[.pointer (some ⟨g, 0, none⟩), .int .u64 n] w fun r w' => r = .returned (.int .i64 0) ∧ Wr w' g lim 0 (L ++ putL n.toNat) ∧ Off w' g 0 q ∧ But (fun k => k ≠ q ∧ g ≤ k) w w' := by
  obtain ⟨N, rfl⟩ : ∃ N : Nat, n = (N : Int) := ⟨n.toNat, by omega⟩
  rw [show ((N : Int)).toNat = N from by simp]
  have hb := putL_ten (N := N) (by omega)
  obtain ⟨e1, e2⟩ := wAdd_fit (lim := lim) (L := L) (b := putL N) (by omega)
  have hc := cWU_anyF g lim 0 L N (by omega) w h
  rw [e1, e2] at hc
  refine hc.mono ?_
  rintro r w' ⟨h1, h2, h3⟩
  exact ⟨h1, h2, hq.wf h3, WF.box h hq h3⟩
theorem cWN_box (g q : Nat) (lim : Int) (L : List Nat) (n : Int) (h0 : 0 ≤ n) (h1 : n < 9223372036854775808) (hf : (L.length : Int) + 10 ≤ lim) (w : World) (h : Wr w g lim 0 L) (hq : Off w g 0 q) :
    Calls Tryz.prog 21 #[.pointer (some ⟨g, 0, none⟩), .int .i64 n] w fun r w' => r = .returned (.int .i64 0) ∧ Wr w' g lim 0 (L ++ putL n.toNat) ∧ Off w' g 0 q ∧ But (fun k => k ≠ q ∧ g ≤ k) w w' := by
  obtain ⟨N, rfl⟩ : ∃ N : Nat, n = (N : Int) := ⟨n.toNat, by omega⟩
  rw [show ((N : Int)).toNat = N from by simp]
  have hb := putL_ten (N := N) (by omega)
  obtain ⟨e1, e2⟩ := wAdd_fit (lim := lim) (L := L) (b := putL N) (by omega)
  have hc := cWN_posF g lim L N (by omega) w h
  rw [e1, e2] at hc
  refine hc.mono ?_
  rintro r w' ⟨h1, h2, h3⟩
  exact ⟨h1, h2, hq.wf h3, WF.box h hq h3⟩
theorem cNewWriter_ex (lim : Int) (h0 : 0 ≤ lim) (h1 : lim ≤ 1048576) (w : World) :
    Calls Tryz.prog 20 #[.int .i64 lim] w fun r w' => ∃ g, r = .returned (.tuple #[.pointer (some ⟨g, 0, none⟩), .int .i64 0]) ∧ w.heap.size ≤ g ∧ Wr w' g lim 0 [] ∧ Ext w w' :=
  (cNewWriter_any lim h0 h1 w).mono fun r w' h => ⟨_, h.1, Nat.le_refl _, h.2⟩
theorem rNewWriter_ex (lim : Int) (h0 : 0 ≤ lim) (h1 : lim ≤ 1048576) (w : World) :
    Calls Tryz.prog 26 #[.int .i64 lim] w fun r w' => ∃ g, r = .returned (.tuple #[.pointer (some ⟨g, 0, none⟩), .int .i64 0]) ∧ w.heap.size ≤ g ∧ RWr w' g lim 0 [] ∧ Ext w w' :=
  (rNewWriter_any lim h0 h1 w).mono fun r w' h => ⟨_, h.1, Nat.le_refl _, h.2⟩
theorem cDone_ok (g : Nat) (lim : Int) (L : List Nat) (w : World) (h : Wr w g lim 0 L) : Calls Tryz.prog 24 #[.pointer (some ⟨g, 0, none⟩)] w (ByErr L 0 w) := by
  have h := cDone_any g lim 0 L w h
  rwa [if_pos rfl] at h
theorem rDone_ok (g : Nat) (lim : Int) (L : List Nat) (w : World) (h : RWr w g lim 0 L) : Calls Tryz.prog 30 #[.pointer (some ⟨g, 0, none⟩)] w (ByErr L 0 w) := by
  have h := rDone_any g lim 0 L w h
  rwa [if_pos rfl] at h
theorem SlB.bel {B G : Nat} {w w' : World} {sz n c : Nat} {A : Option Addr} {xs : List Value} (h : SlB B w sz A n c xs) (hx : Below G w w') (hb : B ≤ G) : SlB B w' sz A n c xs := by
  refine ⟨⟨h.1.1, h.1.2.1, h.1.2.2.1, fun hn => ?_⟩, h.2⟩
  obtain ⟨b, o, e, hlt, hc⟩ := h.1.at_ hn
  have h2 := h.2 hn b o none e
  exact ⟨b, o, e, by have := hx.size; omega, fun j u hu => (hx.cell (p := ⟨b, o + j, none⟩) (show b < G by omega)).trans (hc j u hu)⟩
theorem Ext.bel {a b c : World} {g : Nat} (h : Ext a b) (k : Below g b c) (hg : a.heap.size ≤ g) : Ext a c := Below.trans h (k.mono hg)
end
section
open Go.RowKit
theorem Rd.set4 {w : World} {g k : Nat} {L : List Nat} {flt : Option (Int × Int)} (h : Rd w g L k flt) {b : Nat} {v0 v1 v2 v3 : Value} (hg : g < b) (ht : ∃ cs t z, w.heap[b]? = some (.cells cs t z) ∧ t ≠ 32) :
    Rd ((((w.setCell ⟨b, 0, none⟩ v0).setCell ⟨b, 1, none⟩ v1).setCell ⟨b, 2, none⟩ v2).setCell ⟨b, 3, none⟩ v3) g L k flt := by
  have step : ∀ (w : World) (o : Nat) (v : Value), (∃ cs t z, w.heap[b]? = some (.cells cs t z) ∧ t ≠ 32) → ∃ cs t z, (w.setCell ⟨b, o, none⟩ v).heap[b]? = some (.cells cs t z) ∧ t ≠ 32 := by
    rintro w o v ⟨cs, t, z, h1, h2⟩
    obtain ⟨cs', h3⟩ := heap_set_type (p := ⟨b, o, none⟩) (v := v) h1
    exact ⟨cs', t, z, h3, h2⟩
  have t1 := step w 0 v0 ht
  have t2 := step _ 1 v1 t1
  have t3 := step _ 2 v2 t2
  exact (((h.setOther hg ht).setOther hg t1).setOther hg t2).setOther hg t3
theorem But.mono2 {g b : Nat} {w w' : World} (h : But (fun k => k = g ∨ k = b) w w') (hb : w.heap.size ≤ b) : But (· = g) w w' := h.mono fun k hk hs => by rcases hs with rfl | rfl; rfl; omega
/-- does a reader have a fault that ends a Take? -/
def fltB (flt : Option (Int × Int)) (k n : Nat) : Bool := leftF flt k n == 0 && (endF flt k n).1 != 0
set_option maxRecDepth 100000 in
theorem tfaulty_any (g k : Nat) (L : List Nat) (flt : Option (Int × Int)) (w : World) (h : Rd w g L k flt) (hL : L.length < 1099511627776) :
    Calls Tryz.prog 71 #[.pointer (some ⟨g, 0, none⟩)] w fun r w' => r = .returned (.bool (fltB flt k L.length)) ∧ Ext w w' := by
  have C1 := Lib.hid (cLeft_any g k L flt w h hL)
  have H := Lib.hid h
  have HL := Lib.hid hL
  unfold fltB
  obtain ⟨l, hl⟩ : ∃ l, leftF flt k L.length = l := ⟨_, rfl⟩
  obtain ⟨e, he⟩ : ∃ e, (endF flt k L.length).1 = e := ⟨_, rfl⟩
  have C2 := Lib.hid (fun w h => cEnd_any g k L flt w h hL)
  rw [hl] at C1
  rw [he] at C2
  rw [hl, he]
  generalize (endF flt k L.length).2 = e2 at C2
  clear h hL hl he
  have hfd : ∀ w : World, (Instr.field 32 (.agg #[.int .i64 e, .int .i64 e2]) 0).run Tryz.prog w = .ok (.int .i64 e) w := fun _ => by kernel_rfl
  obtain ⟨p, hp⟩ : ∃ p, (l == 0) = p := ⟨_, rfl⟩
  rw [hp]
  cases p
  · go_enter Tryz.func71, Tryz.ntmps71
    go_wp2_with fail
    refine C1.out.mono ?_
    rintro r w1 ⟨rfl, hx1⟩
    have X1 := Lib.hid hx1
    clear hx1
    go_wp2_with fail
    go_ret
    exact ⟨rfl, X1.out⟩
  · go_enter Tryz.func71, Tryz.ntmps71
    go_wp2_with fail
    refine C1.out.mono ?_
    rintro r w1 ⟨rfl, hx1⟩
    have X1 := Lib.hid hx1
    have H1 := Lib.hid (H.out.keep hx1)
    clear hx1 H C1
    go_wp2_with fail
    refine (C2.out _ H1.out).mono ?_
    rintro r w2 ⟨rfl, hx2⟩
    have X2 := Lib.hid (X1.out.trans hx2)
    clear hx2 X1 H1 C2
    go_wp2_with fail
    go_ret
    exact ⟨by simp [bne], X2.out⟩
theorem rnV_bound (L : List Nat) (k : Nat) (flt : Option (Int × Int)) (least most : Int) (h2 : 0 ≤ most) : 0 ≤ rnV L k flt least most ∧ rnV L k flt least most ≤ most := by
  unfold rnV
  split
  · rename_i h
    obtain ⟨_, h1⟩ := rnE_zero h.2
    exact ⟨by omega, h1⟩
  · exact ⟨Int.le_refl _, h2⟩
set_option maxRecDepth 100000 in
set_option maxHeartbeats 2000000 in
theorem tTake_at (g k k1 k2 k3 k4 : Nat) (L : List Nat) (f f1 f2 f3 f4 f5 : Option (Int × Int)) (at_ V S Q F E : Int) (b b2 : Bool) (q0 : 0 ≤ Q) (q1 : Q ≤ 32)
    (CA : Hid (∀ w, Rd w g L k f → Calls Tryz.prog 33 #[.pointer (some ⟨g, 0, none⟩)] w fun r w' => r = .returned (.int .i64 at_) ∧ w = w'))
    (C1 : Hid (∀ w, Rd w g L k f → Calls Tryz.prog 32 #[.pointer (some ⟨g, 0, none⟩), .int .i64 0, .int .i64 31] w (RdP g L w V k1 f1)))
    (C2 : Hid (∀ w, Rd w g L k1 f1 → Calls Tryz.prog 32 #[.pointer (some ⟨g, 0, none⟩), .int .i64 1, .int .i64 4294967296] w (RdP g L w S k2 f2)))
    (C3 : Hid (∀ w, Rd w g L k2 f2 → Calls Tryz.prog 32 #[.pointer (some ⟨g, 0, none⟩), .int .i64 0, .int .i64 32] w (RdP g L w Q k3 f3)))
    (C4 : Hid (∀ w, Rd w g L k3 f3 → Calls Tryz.prog 32 #[.pointer (some ⟨g, 0, none⟩), .int .i64 0, .int .i64 4294967296] w (RdP g L w F k4 f4)))
    (C5 : Hid (∀ w, Rd w g L k4 f4 → Calls Tryz.prog 71 #[.pointer (some ⟨g, 0, none⟩)] w fun r w' => r = .returned (.bool b) ∧ Ext w w'))
    (CK : Hid (∀ w, Calls Tryz.prog 59 #[.agg #[.int .i64 V, .int .i64 S, .int .i64 (Q - 1), .int .i64 F]] w fun r w' => r = .returned (.int .i64 E) ∧ Ext w w'))
    (C6 : Hid (∀ w, Rd w g L k4 f4 → Calls Tryz.prog 37 #[.pointer (some ⟨g, 0, none⟩), .int .i64 E, .int .i64 at_] w fun r w' => (∃ v, r = .returned v) ∧ Rd w' g L k4 (failF f4 E at_) ∧ But (· = g) w w'))
    (h5 : (if b = true then f4 else failF f4 E at_) = f5)
    (C7 : Hid (∀ w, Rd w g L k4 f5 → Calls Tryz.prog 71 #[.pointer (some ⟨g, 0, none⟩)] w fun r w' => r = .returned (.bool b2) ∧ Ext w w'))
    (w : World) (h : Rd w g L k f) :
    Calls Tryz.prog 34 #[.pointer (some ⟨g, 0, none⟩)] w fun r w' => r = .returned (.agg #[.int .i64 (if b2 = true then 0 else V), .int .i64 (if b2 = true then 0 else S), .int .i64 (if b2 = true then 0 else Q - 1), .int .i64 (if b2 = true then 0 else F)]) ∧ Rd w' g L k4 f5 ∧ But (· = g) w w' := by
  have lt := h.lt
  have H := Lib.hid (h.keep (w' := w.alloc (.cells #[.int .i64 0, .int .i64 0, .int .i64 0, .int .i64 0] 51)) ((Below.refl _ w).alloc (Nat.le_refl _) _))
  clear h
  have hP : -1 ≤ Q - 1 := by omega
  go_enter Tryz.func34, Tryz.ntmps34
  go_wp2_with fail
  refine (CA.out _ H.out).mono ?_
  rintro r w0 ⟨rfl, rfl⟩
  go_wp2_with fail
  refine (C1.out _ H.out).mono ?_
  rintro r w1 ⟨rfl, hr1, hb1⟩
  have hng : ¬ w.heap.size = g := by omega
  have d0 : w1.cell? ⟨w.heap.size, 0, none⟩ = some (.int .i64 0) := hb1.has hng (by simp [go_sem])
  have e0 : w1.frozen? ⟨w.heap.size, 0, none⟩ = false := hb1.froz hng (v := .int .i64 0) (by simp [go_sem]) (by simp [go_sem])
  have d1 : w1.cell? ⟨w.heap.size, 1, none⟩ = some (.int .i64 0) := hb1.has hng (by simp [go_sem])
  have e1 : w1.frozen? ⟨w.heap.size, 1, none⟩ = false := hb1.froz hng (v := .int .i64 0) (by simp [go_sem]) (by simp [go_sem])
  have d2 : w1.cell? ⟨w.heap.size, 2, none⟩ = some (.int .i64 0) := hb1.has hng (by simp [go_sem])
  have e2 : w1.frozen? ⟨w.heap.size, 2, none⟩ = false := hb1.froz hng (v := .int .i64 0) (by simp [go_sem]) (by simp [go_sem])
  have d3 : w1.cell? ⟨w.heap.size, 3, none⟩ = some (.int .i64 0) := hb1.has hng (by simp [go_sem])
  have e3 : w1.frozen? ⟨w.heap.size, 3, none⟩ = false := hb1.froz hng (v := .int .i64 0) (by simp [go_sem]) (by simp [go_sem])
  have z1 := hb1.size
  simp at z1
  have X1 := Lib.hid (show But (· = g) (w.alloc (.cells #[.int .i64 0, .int .i64 0, .int .i64 0, .int .i64 0] 51)) w1 from hb1)
  have H1 := Lib.hid hr1
  clear hr1 hb1 H C1 CA
  go_wp2_with fail
  refine (C2.out _ H1.out).mono ?_
  rintro r w2 ⟨rfl, hr2, hb2⟩
  replace e0 := hb2.froz hng d0 e0
  replace d0 := hb2.has hng d0
  replace e1 := hb2.froz hng d1 e1
  replace d1 := hb2.has hng d1
  replace e2 := hb2.froz hng d2 e2
  replace d2 := hb2.has hng d2
  replace e3 := hb2.froz hng d3 e3
  replace d3 := hb2.has hng d3
  have z2 := hb2.size
  have X2 := Lib.hid (X1.out.trans hb2)
  have r0 : w.heap.size < w2.heap.size := by omega
  have r01 : w.heap.size < w2.heap.size := r0
  have r00 : w.heap.size ≤ w2.heap.size ∧ g < w2.heap.size := ⟨by omega, by omega⟩
  have hng2 : ¬ w2.heap.size = g := by omega
  have H2 := Lib.hid (hr2.keep ((Below.refl _ w2).alloc (Nat.le_refl _) (.cells #[.int .i64 V, .int .i64 S, .int .i64 0, .int .i64 0] 51)))
  clear hr2 hb2 H1 X1 C2 z1 z2
  go_wp2_with fail
  refine (C3.out _ H2.out).mono ?_
  rintro r w3 ⟨rfl, hr3, hb3⟩
  have z3 := hb3.size
  simp at z3
  have hxx := (But.ofExt (S := (· = g)) ((Ext.refl w2).alloc (.cells #[.int .i64 V, .int .i64 S, .int .i64 0, .int .i64 0] 51))).trans hb3
  replace e0 := hxx.froz hng d0 e0
  replace d0 := hxx.has hng d0
  replace e1 := hxx.froz hng d1 e1
  replace d1 := hxx.has hng d1
  replace e2 := hxx.froz hng d2 e2
  replace d2 := hxx.has hng d2
  replace e3 := hxx.froz hng d3 e3
  replace d3 := hxx.has hng d3
  have s0 : w3.cell? ⟨w2.heap.size, 0, none⟩ = some (.int .i64 V) := hb3.has hng2 (by simp [go_sem])
  have t0 : w3.frozen? ⟨w2.heap.size, 0, none⟩ = false := hb3.froz hng2 (v := .int .i64 V) (by simp [go_sem]) (by simp [go_sem])
  have s1 : w3.cell? ⟨w2.heap.size, 1, none⟩ = some (.int .i64 S) := hb3.has hng2 (by simp [go_sem])
  have t1 : w3.frozen? ⟨w2.heap.size, 1, none⟩ = false := hb3.froz hng2 (v := .int .i64 S) (by simp [go_sem]) (by simp [go_sem])
  have s2 : w3.cell? ⟨w2.heap.size, 2, none⟩ = some (.int .i64 0) := hb3.has hng2 (by simp [go_sem])
  have t2 : w3.frozen? ⟨w2.heap.size, 2, none⟩ = false := hb3.froz hng2 (v := .int .i64 0) (by simp [go_sem]) (by simp [go_sem])
  have s3 : w3.cell? ⟨w2.heap.size, 3, none⟩ = some (.int .i64 0) := hb3.has hng2 (by simp [go_sem])
  have t3 : w3.frozen? ⟨w2.heap.size, 3, none⟩ = false := hb3.froz hng2 (v := .int .i64 0) (by simp [go_sem]) (by simp [go_sem])
  have HT : ∃ cs t z, w3.heap[w2.heap.size]? = some (.cells cs t z) ∧ t ≠ 32 := ⟨_, _, _, (hb3.block w2.heap.size (by simp) hng2).trans (World.alloc_heap_new w2 (.cells #[.int .i64 V, .int .i64 S, .int .i64 0, .int .i64 0] 51)), by decide⟩
  have X3 := Lib.hid (X2.out.trans hxx)
  have r1 : w.heap.size < w3.heap.size := by omega
  have r2 : w2.heap.size < w3.heap.size := by omega
  have n1 : ¬ w2.heap.size = w.heap.size := by omega
  have n2 : ¬ w.heap.size = w2.heap.size := by omega
  have H3 := Lib.hid ((hr3.setOther (b := w2.heap.size) (o := 2) (v := .int .i64 (Q - 1)) (by omega) HT))
  clear hr3 hb3 H2 X2 C3 hxx z3 r0
  go_wp2_with fail
  refine (C4.out _ H3.out).mono ?_
  rintro r w4 ⟨rfl, hr4, hb4⟩
  have hxx : But (fun k => k = g ∨ k = w2.heap.size) w3 w4 := ((But.refl (fun k => k = g ∨ k = w2.heap.size) w3).setCell (p := ⟨w2.heap.size, 2, none⟩) (.inr rfl) (.int .i64 (Q - 1))).trans (hb4.mono (fun k _ hk => .inl hk))
  have hng3 : ¬ (w.heap.size = g ∨ w.heap.size = w2.heap.size) := by omega
  replace e0 := hxx.froz hng3 d0 e0
  replace d0 := hxx.has hng3 d0
  replace e1 := hxx.froz hng3 d1 e1
  replace d1 := hxx.has hng3 d1
  replace e2 := hxx.froz hng3 d2 e2
  replace d2 := hxx.has hng3 d2
  replace e3 := hxx.froz hng3 d3 e3
  replace d3 := hxx.has hng3 d3
  have t0' : w4.frozen? ⟨w2.heap.size, 0, none⟩ = false := hb4.froz hng2 (v := .int .i64 V) (by simp [go_sem, s0, s1, s2, s3, t0, t1, t2, t3]) (by simp [go_sem, s0, s1, s2, s3, t0, t1, t2, t3])
  have t1' : w4.frozen? ⟨w2.heap.size, 1, none⟩ = false := hb4.froz hng2 (v := .int .i64 S) (by simp [go_sem, s0, s1, s2, s3, t0, t1, t2, t3]) (by simp [go_sem, s0, s1, s2, s3, t0, t1, t2, t3])
  have t2' : w4.frozen? ⟨w2.heap.size, 2, none⟩ = false := hb4.froz hng2 (v := .int .i64 (Q - 1)) (by simp [go_sem, s0, s1, s2, s3, t0, t1, t2, t3]) (by simp [go_sem, s0, s1, s2, s3, t0, t1, t2, t3])
  have t3' : w4.frozen? ⟨w2.heap.size, 3, none⟩ = false := hb4.froz hng2 (v := .int .i64 0) (by simp [go_sem, s0, s1, s2, s3, t0, t1, t2, t3]) (by simp [go_sem, s0, s1, s2, s3, t0, t1, t2, t3])
  have s0' : w4.cell? ⟨w2.heap.size, 0, none⟩ = some (.int .i64 V) := hb4.has hng2 (by simp [go_sem, s0, s1, s2, s3, t0, t1, t2, t3])
  have s1' : w4.cell? ⟨w2.heap.size, 1, none⟩ = some (.int .i64 S) := hb4.has hng2 (by simp [go_sem, s0, s1, s2, s3, t0, t1, t2, t3])
  have s2' : w4.cell? ⟨w2.heap.size, 2, none⟩ = some (.int .i64 (Q - 1)) := hb4.has hng2 (by simp [go_sem, s0, s1, s2, s3, t0, t1, t2, t3])
  have s3' : w4.cell? ⟨w2.heap.size, 3, none⟩ = some (.int .i64 0) := hb4.has hng2 (by simp [go_sem, s0, s1, s2, s3, t0, t1, t2, t3])
  clear s0 s1 s2 s3 t0 t1 t2 t3
  have s0 := s0'
  have t0 := t0'
  have s1 := s1'
  have t1 := t1'
  have s2 := s2'
  have t2 := t2'
  have s3 := s3'
  have t3 := t3'
  clear s0' s1' s2' s3' t0' t1' t2' t3'
  have HT4 : ∃ cs t z, w4.heap[w2.heap.size]? = some (.cells cs t z) ∧ t ≠ 32 := by
    obtain ⟨cs, t, z, k1, k2⟩ := HT
    have k3 := heap_set_type (w := w3) (p := ⟨w2.heap.size, 2, none⟩) (v := .int .i64 (Q - 1)) k1
    obtain ⟨cs', k3⟩ := k3
    exact ⟨cs', t, z, (hb4.block w2.heap.size (by simpa using r2) hng2).trans k3, k2⟩
  have z4 := hb4.size
  simp at z4
  have X4 := Lib.hid (show But (fun k => k = g ∨ k = w2.heap.size) (w.alloc (.cells #[.int .i64 0, .int .i64 0, .int .i64 0, .int .i64 0] 51)) w4 from (X3.out.mono (fun k _ hk => .inl hk)).trans hxx)
  replace r1 : w.heap.size < w4.heap.size := by omega
  replace r2 : w2.heap.size < w4.heap.size := by omega
  have H4 := Lib.hid (hr4.setOther (b := w2.heap.size) (o := 3) (v := .int .i64 F) r00.2 HT4)
  clear hr4 hb4 H3 X3 C4 hxx z4 HT HT4
  cases b
  · rw [if_neg (by decide)] at h5
    subst h5
    go_wp2_with fail
    refine (C5.out _ H4.out).mono ?_
    rintro r w5 ⟨rfl, hx5⟩
    have e0' : w5.frozen? ⟨w.heap.size, 0, none⟩ = false := hx5.froz (v := .int .i64 0) (by simp [go_sem, d0, d1, d2, d3, e0, e1, e2, e3, n1, n2]) (by simp [go_sem, d0, d1, d2, d3, e0, e1, e2, e3, n1, n2])
    have e1' : w5.frozen? ⟨w.heap.size, 1, none⟩ = false := hx5.froz (v := .int .i64 0) (by simp [go_sem, d0, d1, d2, d3, e0, e1, e2, e3, n1, n2]) (by simp [go_sem, d0, d1, d2, d3, e0, e1, e2, e3, n1, n2])
    have e2' : w5.frozen? ⟨w.heap.size, 2, none⟩ = false := hx5.froz (v := .int .i64 0) (by simp [go_sem, d0, d1, d2, d3, e0, e1, e2, e3, n1, n2]) (by simp [go_sem, d0, d1, d2, d3, e0, e1, e2, e3, n1, n2])
    have e3' : w5.frozen? ⟨w.heap.size, 3, none⟩ = false := hx5.froz (v := .int .i64 0) (by simp [go_sem, d0, d1, d2, d3, e0, e1, e2, e3, n1, n2]) (by simp [go_sem, d0, d1, d2, d3, e0, e1, e2, e3, n1, n2])
    have d0' : w5.cell? ⟨w.heap.size, 0, none⟩ = some (.int .i64 0) := hx5.has (by simp [go_sem, d0, d1, d2, d3, e0, e1, e2, e3, n1, n2])
    have d1' : w5.cell? ⟨w.heap.size, 1, none⟩ = some (.int .i64 0) := hx5.has (by simp [go_sem, d0, d1, d2, d3, e0, e1, e2, e3, n1, n2])
    have d2' : w5.cell? ⟨w.heap.size, 2, none⟩ = some (.int .i64 0) := hx5.has (by simp [go_sem, d0, d1, d2, d3, e0, e1, e2, e3, n1, n2])
    have d3' : w5.cell? ⟨w.heap.size, 3, none⟩ = some (.int .i64 0) := hx5.has (by simp [go_sem, d0, d1, d2, d3, e0, e1, e2, e3, n1, n2])
    have s0' : w5.cell? ⟨w2.heap.size, 0, none⟩ = some (.int .i64 V) := hx5.has (by simp [go_sem, s0, s1, s2, s3, t0, t1, t2, t3, n1, n2])
    have s1' : w5.cell? ⟨w2.heap.size, 1, none⟩ = some (.int .i64 S) := hx5.has (by simp [go_sem, s0, s1, s2, s3, t0, t1, t2, t3, n1, n2])
    have s2' : w5.cell? ⟨w2.heap.size, 2, none⟩ = some (.int .i64 (Q - 1)) := hx5.has (by simp [go_sem, s0, s1, s2, s3, t0, t1, t2, t3, n1, n2])
    have s3' : w5.cell? ⟨w2.heap.size, 3, none⟩ = some (.int .i64 F) := hx5.has (by simp [go_sem, s0, s1, s2, s3, t0, t1, t2, t3, n1, n2])
    clear d0 d1 d2 d3 e0 e1 e2 e3 s0 s1 s2 s3 t0 t1 t2 t3
    have d0 := d0'
    have e0 := e0'
    have s0 := s0'
    have d1 := d1'
    have e1 := e1'
    have s1 := s1'
    have d2 := d2'
    have e2 := e2'
    have s2 := s2'
    have d3 := d3'
    have e3 := e3'
    have s3 := s3'
    clear d0' d1' d2' d3' e0' e1' e2' e3' s0' s1' s2' s3'
    have X5 := Lib.hid (show But (fun k => k = g ∨ k = w2.heap.size) (w.alloc (.cells #[.int .i64 0, .int .i64 0, .int .i64 0, .int .i64 0] 51)) w5 from (X4.out.setCell (p := ⟨w2.heap.size, 3, none⟩) (.inr rfl) (.int .i64 F)).trans (But.ofExt hx5))
    have H5 := Lib.hid (H4.out.keep hx5)
    have z5 := Ext.size hx5
    simp at z5
    clear hx5 H4 X4 C5
    go_wp2_with fail
    refine (CK.out _).mono ?_
    rintro r w6 ⟨rfl, hx6⟩
    replace e0 := hx6.froz d0 e0
    replace d0 := hx6.has d0
    replace s0 := hx6.has s0
    replace e1 := hx6.froz d1 e1
    replace d1 := hx6.has d1
    replace s1 := hx6.has s1
    replace e2 := hx6.froz d2 e2
    replace d2 := hx6.has d2
    replace s2 := hx6.has s2
    replace e3 := hx6.froz d3 e3
    replace d3 := hx6.has d3
    replace s3 := hx6.has s3
    have X6 := Lib.hid (X5.out.trans (But.ofExt hx6))
    have H6 := Lib.hid (H5.out.keep hx6)
    clear hx6 H5 X5 CK
    go_wp2_with fail
    refine (C6.out _ H6.out).mono ?_
    rintro r w7 ⟨⟨v7, rfl⟩, hr7, hb7⟩
    replace e0 := hb7.froz hng d0 e0
    replace d0 := hb7.has hng d0
    replace s0 := hb7.has hng2 s0
    replace e1 := hb7.froz hng d1 e1
    replace d1 := hb7.has hng d1
    replace s1 := hb7.has hng2 s1
    replace e2 := hb7.froz hng d2 e2
    replace d2 := hb7.has hng d2
    replace s2 := hb7.has hng2 s2
    replace e3 := hb7.froz hng d3 e3
    replace d3 := hb7.has hng d3
    replace s3 := hb7.has hng2 s3
    have X7 := Lib.hid (X6.out.trans (hb7.mono (fun k _ hk => .inl hk)))
    have H7 := Lib.hid hr7
    clear hr7 hb7 H6 X6 C6
    go_wp2_with fail
    refine (C7.out _ H7.out).mono ?_
    rintro r w8 ⟨rfl, hx8⟩
    replace e0 := hx8.froz d0 e0
    replace d0 := hx8.has d0
    replace s0 := hx8.has s0
    replace e1 := hx8.froz d1 e1
    replace d1 := hx8.has d1
    replace s1 := hx8.has s1
    replace e2 := hx8.froz d2 e2
    replace d2 := hx8.has d2
    replace s2 := hx8.has s2
    replace e3 := hx8.froz d3 e3
    replace d3 := hx8.has d3
    replace s3 := hx8.has s3
    have X8 := Lib.hid (X7.out.trans (But.ofExt hx8))
    have H8 := Lib.hid (H7.out.keep hx8)
    have HR8 := Lib.hid hx8
    have lt8 := H8.out.lt
    have XG := Lib.hid (show But (· = g) w w8 from (But.ofExt ((Ext.refl w).alloc _)).trans (X8.out.mono2 (by simp; omega)))
    have HTr : Hid (∃ cs t z, w8.heap[w.heap.size]? = some (.cells cs t z) ∧ t ≠ 32) := Lib.hid ⟨_, _, _, (X8.out.block w.heap.size (by simp) hng3).trans (World.alloc_heap_new w _), by decide⟩
    clear hx8 H7 X7 C7
    cases b2
    · go_wp2_with fail
      refine bodyPost_ret (v := .agg #[.int .i64 V, .int .i64 S, .int .i64 (Q - 1), .int .i64 F]) (by simp [results, Tryz.results34, go_sem, d0, d1, d2, d3, e0, e1, e2, e3]; try rfl) rfl ⟨rfl, ?_, ?_⟩
      · exact H8.out.set4 lt HTr.out
      · exact (((XG.out.setNew (p := ⟨w.heap.size, 0, none⟩) (Nat.le_refl _) _).setNew (p := ⟨w.heap.size, 1, none⟩) (Nat.le_refl _) _).setNew (p := ⟨w.heap.size, 2, none⟩) (Nat.le_refl _) _).setNew (p := ⟨w.heap.size, 3, none⟩) (Nat.le_refl _) _
    · go_wp2_with fail
      refine bodyPost_ret (v := .agg #[.int .i64 0, .int .i64 0, .int .i64 0, .int .i64 0]) (by simp [results, Tryz.results34, go_sem, d0, d1, d2, d3, e0, e1, e2, e3]; try rfl) rfl ⟨rfl, ?_, ?_⟩
      · exact H8.out.set4 lt HTr.out
      · exact (((XG.out.setNew (p := ⟨w.heap.size, 0, none⟩) (Nat.le_refl _) _).setNew (p := ⟨w.heap.size, 1, none⟩) (Nat.le_refl _) _).setNew (p := ⟨w.heap.size, 2, none⟩) (Nat.le_refl _) _).setNew (p := ⟨w.heap.size, 3, none⟩) (Nat.le_refl _) _
  · rw [if_pos rfl] at h5
    subst h5
    go_wp2_with fail
    refine (C5.out _ H4.out).mono ?_
    rintro r w5 ⟨rfl, hx5⟩
    have e0' : w5.frozen? ⟨w.heap.size, 0, none⟩ = false := hx5.froz (v := .int .i64 0) (by simp [go_sem, d0, d1, d2, d3, e0, e1, e2, e3, n1, n2]) (by simp [go_sem, d0, d1, d2, d3, e0, e1, e2, e3, n1, n2])
    have e1' : w5.frozen? ⟨w.heap.size, 1, none⟩ = false := hx5.froz (v := .int .i64 0) (by simp [go_sem, d0, d1, d2, d3, e0, e1, e2, e3, n1, n2]) (by simp [go_sem, d0, d1, d2, d3, e0, e1, e2, e3, n1, n2])
    have e2' : w5.frozen? ⟨w.heap.size, 2, none⟩ = false := hx5.froz (v := .int .i64 0) (by simp [go_sem, d0, d1, d2, d3, e0, e1, e2, e3, n1, n2]) (by simp [go_sem, d0, d1, d2, d3, e0, e1, e2, e3, n1, n2])
    have e3' : w5.frozen? ⟨w.heap.size, 3, none⟩ = false := hx5.froz (v := .int .i64 0) (by simp [go_sem, d0, d1, d2, d3, e0, e1, e2, e3, n1, n2]) (by simp [go_sem, d0, d1, d2, d3, e0, e1, e2, e3, n1, n2])
    have d0' : w5.cell? ⟨w.heap.size, 0, none⟩ = some (.int .i64 0) := hx5.has (by simp [go_sem, d0, d1, d2, d3, e0, e1, e2, e3, n1, n2])
    have d1' : w5.cell? ⟨w.heap.size, 1, none⟩ = some (.int .i64 0) := hx5.has (by simp [go_sem, d0, d1, d2, d3, e0, e1, e2, e3, n1, n2])
    have d2' : w5.cell? ⟨w.heap.size, 2, none⟩ = some (.int .i64 0) := hx5.has (by simp [go_sem, d0, d1, d2, d3, e0, e1, e2, e3, n1, n2])
    have d3' : w5.cell? ⟨w.heap.size, 3, none⟩ = some (.int .i64 0) := hx5.has (by simp [go_sem, d0, d1, d2, d3, e0, e1, e2, e3, n1, n2])
    have s0' : w5.cell? ⟨w2.heap.size, 0, none⟩ = some (.int .i64 V) := hx5.has (by simp [go_sem, s0, s1, s2, s3, t0, t1, t2, t3, n1, n2])
    have s1' : w5.cell? ⟨w2.heap.size, 1, none⟩ = some (.int .i64 S) := hx5.has (by simp [go_sem, s0, s1, s2, s3, t0, t1, t2, t3, n1, n2])
    have s2' : w5.cell? ⟨w2.heap.size, 2, none⟩ = some (.int .i64 (Q - 1)) := hx5.has (by simp [go_sem, s0, s1, s2, s3, t0, t1, t2, t3, n1, n2])
    have s3' : w5.cell? ⟨w2.heap.size, 3, none⟩ = some (.int .i64 F) := hx5.has (by simp [go_sem, s0, s1, s2, s3, t0, t1, t2, t3, n1, n2])
    clear d0 d1 d2 d3 e0 e1 e2 e3 s0 s1 s2 s3 t0 t1 t2 t3
    have d0 := d0'
    have e0 := e0'
    have s0 := s0'
    have d1 := d1'
    have e1 := e1'
    have s1 := s1'
    have d2 := d2'
    have e2 := e2'
    have s2 := s2'
    have d3 := d3'
    have e3 := e3'
    have s3 := s3'
    clear d0' d1' d2' d3' e0' e1' e2' e3' s0' s1' s2' s3'
    have X7 := Lib.hid (show But (fun k => k = g ∨ k = w2.heap.size) (w.alloc (.cells #[.int .i64 0, .int .i64 0, .int .i64 0, .int .i64 0] 51)) w5 from (X4.out.setCell (p := ⟨w2.heap.size, 3, none⟩) (.inr rfl) (.int .i64 F)).trans (But.ofExt hx5))
    have H7 := Lib.hid (H4.out.keep hx5)
    clear hx5 H4 X4 C5 C6 CK
    go_wp2_with fail
    refine (C7.out _ H7.out).mono ?_
    rintro r w8 ⟨rfl, hx8⟩
    replace e0 := hx8.froz d0 e0
    replace d0 := hx8.has d0
    replace s0 := hx8.has s0
    replace e1 := hx8.froz d1 e1
    replace d1 := hx8.has d1
    replace s1 := hx8.has s1
    replace e2 := hx8.froz d2 e2
    replace d2 := hx8.has d2
    replace s2 := hx8.has s2
    replace e3 := hx8.froz d3 e3
    replace d3 := hx8.has d3
    replace s3 := hx8.has s3
    have X8 := Lib.hid (X7.out.trans (But.ofExt hx8))
    have H8 := Lib.hid (H7.out.keep hx8)
    have HR8 := Lib.hid hx8
    have lt8 := H8.out.lt
    have XG := Lib.hid (show But (· = g) w w8 from (But.ofExt ((Ext.refl w).alloc _)).trans (X8.out.mono2 (by simp; omega)))
    have HTr : Hid (∃ cs t z, w8.heap[w.heap.size]? = some (.cells cs t z) ∧ t ≠ 32) := Lib.hid ⟨_, _, _, (X8.out.block w.heap.size (by simp) hng3).trans (World.alloc_heap_new w _), by decide⟩
    clear hx8 H7 X7 C7
    cases b2
    · go_wp2_with fail
      refine bodyPost_ret (v := .agg #[.int .i64 V, .int .i64 S, .int .i64 (Q - 1), .int .i64 F]) (by simp [results, Tryz.results34, go_sem, d0, d1, d2, d3, e0, e1, e2, e3]; try rfl) rfl ⟨rfl, ?_, ?_⟩
      · exact H8.out.set4 lt HTr.out
      · exact (((XG.out.setNew (p := ⟨w.heap.size, 0, none⟩) (Nat.le_refl _) _).setNew (p := ⟨w.heap.size, 1, none⟩) (Nat.le_refl _) _).setNew (p := ⟨w.heap.size, 2, none⟩) (Nat.le_refl _) _).setNew (p := ⟨w.heap.size, 3, none⟩) (Nat.le_refl _) _
    · go_wp2_with fail
      refine bodyPost_ret (v := .agg #[.int .i64 0, .int .i64 0, .int .i64 0, .int .i64 0]) (by simp [results, Tryz.results34, go_sem, d0, d1, d2, d3, e0, e1, e2, e3]; try rfl) rfl ⟨rfl, ?_, ?_⟩
      · exact H8.out.set4 lt HTr.out
      · exact (((XG.out.setNew (p := ⟨w.heap.size, 0, none⟩) (Nat.le_refl _) _).setNew (p := ⟨w.heap.size, 1, none⟩) (Nat.le_refl _) _).setNew (p := ⟨w.heap.size, 2, none⟩) (Nat.le_refl _) _).setNew (p := ⟨w.heap.size, 3, none⟩) (Nat.le_refl _) _
/-- a reader's place and fault behind a number that is read -/
def tkS (L : List Nat) (s : Nat × Option (Int × Int)) (lo hi : Int) : Nat × Option (Int × Int) := (rnK L s.1 s.2 lo hi, rnF L s.1 s.2 lo hi)
def tkV (L : List Nat) (s : Nat × Option (Int × Int)) (lo hi : Int) : Int := rnV L s.1 s.2 lo hi
def tk1 (L : List Nat) (s : Nat × Option (Int × Int)) := tkS L s 0 31
def tk2 (L : List Nat) (s : Nat × Option (Int × Int)) := tkS L (tk1 L s) 1 4294967296
def tk3 (L : List Nat) (s : Nat × Option (Int × Int)) := tkS L (tk2 L s) 0 32
def tk4 (L : List Nat) (s : Nat × Option (Int × Int)) := tkS L (tk3 L s) 0 4294967296
def tkA (L : List Nat) (s : Nat × Option (Int × Int)) : Int := tkV L s 0 31
def tkB (L : List Nat) (s : Nat × Option (Int × Int)) : Int := tkV L (tk1 L s) 1 4294967296
def tkC (L : List Nat) (s : Nat × Option (Int × Int)) : Int := tkV L (tk2 L s) 0 32
def tkD (L : List Nat) (s : Nat × Option (Int × Int)) : Int := tkV L (tk3 L s) 0 4294967296
/-- the fault behind a Take -/
def tkF (L : List Nat) (s : Nat × Option (Int × Int)) : Option (Int × Int) :=
  if fltB (tk4 L s).2 (tk4 L s).1 L.length = true then (tk4 L s).2 else failF (tk4 L s).2 (chkS (tkA L s) (tkB L s) (tkC L s - 1) (tkD L s)) (atF s.2 s.1)
/-- does it hand back noughts? -/
def tkZ (L : List Nat) (s : Nat × Option (Int × Int)) : Bool := fltB (tkF L s) (tk4 L s).1 L.length
theorem tTake_any (g k : Nat) (L : List Nat) (f : Option (Int × Int)) (hL : L.length < 1099511627776) (w : World) (h : Rd w g L k f) :
    Calls Tryz.prog 34 #[.pointer (some ⟨g, 0, none⟩)] w fun r w' => r = .returned (.agg #[.int .i64 (if tkZ L (k, f) = true then 0 else tkA L (k, f)), .int .i64 (if tkZ L (k, f) = true then 0 else tkB L (k, f)), .int .i64 (if tkZ L (k, f) = true then 0 else tkC L (k, f) - 1), .int .i64 (if tkZ L (k, f) = true then 0 else tkD L (k, f))]) ∧
      Rd w' g L (tk4 L (k, f)).1 (tkF L (k, f)) ∧ But (· = g) w w' := by
  have hq := rnV_bound L (tk2 L (k, f)).1 (tk2 L (k, f)).2 0 32 (by decide)
  exact tTake_at g k (tk1 L (k, f)).1 (tk2 L (k, f)).1 (tk3 L (k, f)).1 (tk4 L (k, f)).1 L f (tk1 L (k, f)).2 (tk2 L (k, f)).2 (tk3 L (k, f)).2 (tk4 L (k, f)).2 (tkF L (k, f)) (atF f k) (tkA L (k, f)) (tkB L (k, f)) (tkC L (k, f)) (tkD L (k, f)) _ _ (tkZ L (k, f)) hq.1 hq.2
    (Lib.hid fun w h => cAt_any g k L f w h)
    (Lib.hid fun w h => cRN_any g _ L _ 0 31 (by decide) (by decide) (by decide) (by decide) hL w h)
    (Lib.hid fun w h => cRN_any g _ L _ 1 4294967296 (by decide) (by decide) (by decide) (by decide) hL w h)
    (Lib.hid fun w h => cRN_any g _ L _ 0 32 (by decide) (by decide) (by decide) (by decide) hL w h)
    (Lib.hid fun w h => cRN_any g _ L _ 0 4294967296 (by decide) (by decide) (by decide) (by decide) hL w h)
    (Lib.hid fun w h => tfaulty_any g _ L _ w h hL) (Lib.hid fun w => tCheck_any _ _ _ _ w)
    (Lib.hid fun w h => cFail_any g _ L _ _ _ w h) rfl (Lib.hid fun w h => tfaulty_any g _ L _ w h hL) w h
end
end Go.Proofs.YtnbeejgppooamaaGreat
