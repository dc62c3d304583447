/- The writers of codec and of distraintref02: which blocks a write turns. Conditions stand in each lemma. -/
import Derived.Test.YtlgjdeggbcgbnaaRefW
import Derived.Test.YtlgjdeggbcgbnaaAppB
set_option linter.unusedVariables false
set_option linter.unusedSimpArgs false
namespace Go.Proofs.Ytlgjdeggbcgbnaa
open Go.RowKit

/-- the blocks of a writer at block g whose slice lies in its cell o -/
def Sg (w : World) (g o : Nat) (k : Nat) : Prop := k = g ∨ ∃ n c, w.cell? ⟨g, o, none⟩ = some (.slice (some ⟨k, 0, none⟩) n c)
/-- of what was there only the writer's blocks may have turned, and its blocks are the old ones, or new -/
structure WF (g o : Nat) (w w' : World) : Prop where
  but : But (Sg w g o) w w'
  row : ∀ k, k < w.heap.size → Sg w' g o k → Sg w g o k
theorem Sg.congr {w w' : World} {g o : Nat} (h : w'.cell? ⟨g, o, none⟩ = w.cell? ⟨g, o, none⟩) {k : Nat} : Sg w' g o k ↔ Sg w g o k := by unfold Sg; rw [h]
theorem WF.same {g o : Nat} {w w' : World} (hb : But (Sg w g o) w w') (h : w'.cell? ⟨g, o, none⟩ = w.cell? ⟨g, o, none⟩) : WF g o w w' := ⟨hb, fun k _ hk => (Sg.congr h).1 hk⟩
theorem WF.refl (g o : Nat) (w : World) : WF g o w w := ⟨But.refl _ _, fun _ _ h => h⟩
theorem WF.trans {g o : Nat} {a b c : World} (h : WF g o a b) (k : WF g o b c) : WF g o a c :=
  ⟨⟨k.but.os.trans h.but.os, k.but.tape.trans h.but.tape, k.but.output.trans h.but.output, Nat.le_trans h.but.size k.but.size, fun i hi hs =>
    (k.but.block i (by have := h.but.size; omega) (fun hh => hs (h.row i hi hh))).trans (h.but.block i hi hs)⟩,
   fun i hi hk => h.row i hi (k.row i (by have := h.but.size; omega) hk)⟩
theorem WF.ofExt {g o : Nat} {w w' : World} (h : Ext w w') (hg : g < w.heap.size) : WF g o w w' := WF.same (But.ofExt h) (h.cells.1 g o hg)
/-- a writer's row is old -/
theorem Sg.lt {w : World} {g o : Nat} {A : Option Addr} {n c base : Nat} {L : List Nat} (hc : w.cell? ⟨g, o, none⟩ = some (.slice A n c)) (h : w.ownsRow base 5 1 (.slice A n c) n (by_ L)) (hg : g < w.heap.size) {k : Nat} (hk : Sg w g o k) : k < w.heap.size := by
  rcases hk with rfl | ⟨n', c', e⟩
  · exact hg
  · rw [hc] at e
    injection e with e
    injection e with e1
    subst e1
    exact (h.lt k rfl).2
theorem Wr.sg {w : World} {g : Nat} {lim e : Int} {L : List Nat} (h : Wr w g lim e L) {k : Nat} (hk : Sg w g 0 k) : g ≤ k ∧ k < w.heap.size := by
  obtain ⟨A, c, h0, h1⟩ := h.b
  refine ⟨?_, Sg.lt h0 h1 h.lt hk⟩
  rcases hk with rfl | ⟨n', c', e⟩
  · exact Nat.le_refl _
  · rw [h0] at e
    injection e with e
    injection e with e1
    subst e1
    have := (h1.lt k rfl).1
    omega
theorem RWr.sg {w : World} {g : Nat} {lim e : Int} {L : List Nat} (h : RWr w g lim e L) {k : Nat} (hk : Sg w g 1 k) : g ≤ k ∧ k < w.heap.size := by
  obtain ⟨A, c, h0, h1⟩ := h.b
  refine ⟨?_, Sg.lt h0 h1 h.lt hk⟩
  rcases hk with rfl | ⟨n', c', e⟩
  · exact Nat.le_refl _
  · rw [h0] at e
    injection e with e
    injection e with e1
    subst e1
    have := (h1.lt k rfl).1
    omega
set_option maxHeartbeats 1000000 in
theorem cadd_longF (g : Nat) (lim : Int) (L : List Nat) (B : Option Addr) (m d : Nat) (w : World) (h : Wr w g lim 0 L) (hm : m ≤ 1048576) (hl : lim - L.length < m) :
    Calls Try.prog 64 #[.pointer (some ⟨g, 0, none⟩), .slice B m d] w fun r w' => r = .returned (.int .i64 4) ∧ Wr w' g lim 4 L ∧ WF g 0 w w' := by
  have H2 := h.c2
  have H3 := h.c3
  obtain ⟨A, c, H0, hown⟩ := h.b
  have H1 := h.c1
  have F3 := h.f3
  have l0 := h.l0
  have l1 := h.l1
  have l2 := h.short
  have HH := Lib.hid h
  have hln : (L.length : Int) ≤ 1048576 := by omega
  have hmn : (m : Int) ≤ 1048576 := by omega
  have e1 : decide (lim - (L.length : Int) < (m : Int)) = true := by simpa using hl
  clear hown h hl
  generalize hLn : L.length = N at *
  replace hLn := Lib.hid hLn
  have eq1 : IntKind.i64.wrap (lim - (N : Int)) = lim - N := IntWalk.i64_in _ (by omega)
  go_enter Try.func64, Try.ntmps64
  go_wp2_with fail
  refine (cstate_any g 0 _ H2 H3).mono ?_
  rintro r w1 ⟨rfl, rfl⟩
  go_wp2_with fail
  go_quiet (fail)
  go_wp2
  go_ret
  exact ⟨rfl, (HH.out.drewN _).setErr 4, WF.same (((But.refl _ _).drewN _).setCell (p := ⟨g, 3, none⟩) (.inl rfl) _) (by simp [go_sem])⟩
set_option maxHeartbeats 1000000 in
theorem cadd_okF (g : Nat) (lim : Int) (L bl : List Nat) (B : Option Addr) (m d : Nat) (w : World) (h : Wr w g lim 0 L) (hS : Sl w 1 B m d (by_ bl)) (hl : ¬ lim - L.length < m) :
    Calls Try.prog 64 #[.pointer (some ⟨g, 0, none⟩), .slice B m d] w fun r w' => r = .returned (.int .i64 0) ∧ Wr w' g lim 0 (L ++ bl) ∧ WF g 0 w w' := by
  obtain ⟨i0, hi, hz0, hz1, hz2⟩ := info_parts u8_info
  have hbm : bl.length = m := by have := hS.len; rw [by_len] at this; omega
  have H2 := h.c2
  have H3 := h.c3
  obtain ⟨A, c, H0, hown⟩ := h.b
  have H1 := h.c1
  have F0 := h.f0
  have l0 := h.l0
  have l1 := h.l1
  have l2 := h.short
  have lt := h.lt
  have HH := Lib.hid h
  have HO := Lib.hid hown
  have HS := Lib.hid hS
  have hln : (L.length : Int) ≤ 1048576 := by omega
  have hmn : (m : Int) ≤ 1048576 := by omega
  have e1 : decide (lim - (L.length : Int) < (m : Int)) = false := decide_eq_false hl
  have hbm := Lib.hid hbm
  have hle : (L.length : Int) + m ≤ lim := by omega
  have hlt2 : g < (w.drewN 0).heap.size := h.lt
  clear h hown hl hS
  generalize hLn : L.length = N at *
  replace hLn := Lib.hid hLn
  have eq1 : IntKind.i64.wrap (lim - (N : Int)) = lim - N := IntWalk.i64_in _ (by omega)
  go_enter Try.func64, Try.ntmps64
  go_wp2_with fail
  refine (cstate_any g 0 _ H2 H3).mono ?_
  rintro r w1 ⟨rfl, rfl⟩
  go_wp2_with fail
  go_quiet (fail)
  go_wp2_with (at_builtin; refine wpList_append_slB (w.drewN nq) rfl _ _ 40 rfl (g + 1) 5 i0 (.int .u8 0) 1 1 Try.underlying40 hi hz0 hz1 hz2 rfl (by decide) _ N (by_ L) (by rfl) HO.out B m d (by_ bl) (by rfl) (HS.out.ext ((Ext.refl _).drewN _)) by_one (by omega) (by decide) (by simp; omega) ?_; intro v1 w1 hown1 hb1 hn1; have hgS : ¬ ((Value.slice A N c).ownBlock = some g) := (fun e => by have := (HO.out.lt g e).1; omega); obtain ⟨A1, c1, rfl, s1⟩ := own_parts hown1; have q0 : w1.cell? ⟨g, 0, none⟩ = some (.slice A N c) := hb1.has hgS H0; have q1 : w1.frozen? ⟨g, 0, none⟩ = false := (hb1.frozen hlt2 hgS).trans F0; have HB := Lib.hid (And.intro hb1 (And.intro hn1 hgS)); have HW := Lib.hid hown1; clear hb1 hown1 s1 hn1 hgS)
  go_ret
  refine ⟨rfl, ?_, ?_⟩
  · have hb := HB.out.1
    have hgS := HB.out.2.2
    have hh := HH.out
    have eL : (L ++ bl).length = N + m := by rw [List.length_append, hLn.out, hbm.out]
    have cl : ∀ o, w1.cell? ⟨g, o, none⟩ = w.cell? ⟨g, o, none⟩ := fun o => hb.cell hlt2 hgS
    have fl : ∀ o, w1.frozen? ⟨g, o, none⟩ = w.frozen? ⟨g, o, none⟩ := fun o => hb.frozen hlt2 hgS
    have e0 := cl 0; have e1 := (cl 1).trans hh.c1; have e2 := (cl 2).trans hh.c2; have e3 := (cl 3).trans hh.c3
    have g0 := (fl 0).trans hh.f0; have g3 := (fl 3).trans hh.f3
    have hs := hb.size
    simp at hs
    refine ⟨⟨A1, c1, by rw [eL]; simp [go_sem, q0], ?_⟩, by simp [go_sem, e1], by simp [go_sem, e2], by simp [go_sem, e3], by simp [go_sem, g0], by simp [go_sem, g3], by simp; omega, by rw [eL]; omega, l0, l1⟩
    rw [eL, ← by_append]
    exact ownsRow_setCell_below HW.out (by simp) _
  · have hb := HB.out.1
    have hgS := HB.out.2.2
    have hc0 : w1.cell? ⟨g, 0, none⟩ = w.cell? ⟨g, 0, none⟩ := hb.cell hlt2 hgS
    have hoff : ∀ k, (Value.slice A N c).ownBlock = some k → Sg w g 0 k := by
      intro k hk
      have h0 := H0
      rcases HO.out.2 with ⟨h1, _⟩ | ⟨q, cap, cur, h1, _⟩
      · rw [h1] at hk; cases hk
      · rw [h1] at hk h0
        injection hk with hk
        have hk2 : q = k := hk
        subst hk2
        exact .inr ⟨_, _, h0⟩
    refine ⟨?_, ?_⟩
    · exact (((But.refl _ w).drewN nq).trans (hb.mono fun k _ hk => hoff k hk)).setCell (p := ⟨g, 0, none⟩) (.inl rfl) _
    · intro k hk hs
      rcases hs with rfl | ⟨n', c', e⟩
      · exact .inl rfl
      · have e2 : (w1.setCell ⟨g, 0, none⟩ (.slice A1 (N + m) c1)).cell? ⟨g, 0, none⟩ = some (.slice A1 (N + m) c1) := by simp [go_sem, q0]
        rw [e2] at e
        injection e with e
        injection e with e1
        subst e1
        rcases HB.out.2.1 k rfl with h | h
        · exact hoff k h
        · simp at h; omega
theorem cadd_anyF (g : Nat) (lim e : Int) (L bl : List Nat) (B : Option Addr) (m d : Nat) (w : World) (h : Wr w g lim e L) (hS : Sl w 1 B m d (by_ bl)) (hm : m ≤ 1048576) :
    Calls Try.prog 64 #[.pointer (some ⟨g, 0, none⟩), .slice B m d] w fun r w' => r = .returned (.int .i64 (wAddE lim e L bl)) ∧ Wr w' g lim (wAddE lim e L bl) (wAddL lim e L bl) ∧ WF g 0 w w' := by
  have hbm : bl.length = m := by have := hS.len; rw [by_len] at this; omega
  unfold wAddL wAddE
  rw [hbm]
  by_cases he : e = 0
  · subst he
    rw [if_pos rfl]
    by_cases hl : lim - L.length < m
    · rw [if_pos hl, if_neg (by decide)]
      exact cadd_longF g lim L B m d w h hm hl
    · rw [if_neg hl, if_pos rfl]
      exact cadd_okF g lim L bl B m d w h hS hl
  · rw [if_neg he, if_neg he]
    refine (cadd_err g lim e L _ w h he).mono ?_
    rintro r w' ⟨h1, rfl⟩
    exact ⟨h1, h, WF.refl _ _ _⟩
theorem cWU_anyF (g : Nat) (lim e : Int) (L : List Nat) (N : Nat) (hN : N < 18446744073709551616) (w : World) (h : Wr w g lim e L) :
    Calls Try.prog 48 #[.pointer (some ⟨g, 0, none⟩), .int .u64 (N : Int)] w fun r w' => r = .returned (.int .i64 (wAddE lim e L (putL N))) ∧ Wr w' g lim (wAddE lim e L (putL N)) (wAddL lim e L (putL N)) ∧ WF g 0 w w' := by
  have H := Lib.hid h
  have hp : (putL N).length ≤ 1048576 := by have := putL_len N 9 (by omega); omega
  have HP := Lib.hid hp
  obtain ⟨E, hE⟩ : ∃ E, E = wAddE lim e L (putL N) := ⟨_, rfl⟩
  obtain ⟨M, hM⟩ : ∃ M, M = wAddL lim e L (putL N) := ⟨_, rfl⟩
  rw [← hE, ← hM]
  have HE := Lib.hid (And.intro hE hM)
  clear h hE hM hp
  go_enter Try.func48, Try.ntmps48
  go_wp2_with fail
  refine (cPut_any N hN _).mono ?_
  rintro r w1 ⟨v, rfl, h1, hx1⟩
  obtain ⟨A1, c1, rfl, s1⟩ := own_parts h1
  have C := cadd_anyF g lim e L (putL N) A1 (putL N).length c1 w1 (H.out.keep hx1) s1 HP.out
  rw [← HE.out.1, ← HE.out.2] at C
  replace C := Lib.hid C
  have X1 := Lib.hid (And.intro hx1 H.out.lt)
  clear h1 s1 hx1
  go_wp2_with fail
  refine C.out.mono ?_
  rintro r w2 ⟨rfl, hw2, hb2⟩
  have W2 := Lib.hid (And.intro hw2 hb2)
  clear hw2 hb2 C
  go_wp2_with fail
  go_ret
  exact ⟨rfl, W2.out.1, (WF.ofExt X1.out.1 X1.out.2).trans W2.out.2⟩
theorem cWN_errF (g : Nat) (lim e : Int) (L : List Nat) (n : Int) (h0 : -9223372036854775808 ≤ n) (h1 : n ≤ 9223372036854775807) (w : World) (h : Wr w g lim e L) (he : ¬ e = 0) :
    Calls Try.prog 47 #[.pointer (some ⟨g, 0, none⟩), .int .i64 n] w fun r w' => r = .returned (.int .i64 e) ∧ Wr w' g lim e L ∧ WF g 0 w w' := by
  have H2 := h.c2
  have H3 := h.c3
  have hef : (e == 0) = false := beq_false_of_ne he
  obtain ⟨M, hM⟩ : ∃ M : Nat, IntKind.u64.wrap n = (M : Int) ∧ M < 18446744073709551616 := by
    refine ⟨(IntKind.u64.wrap n).toNat, ?_, ?_⟩ <;> rw [IntKind.wrap_u64] <;> omega
  have hne : (e != 0) = true := by simpa using he
  have C := cWU_anyF g lim e L M hM.2 w h
  have E1 : wAddE lim e L (putL M) = e := if_neg he
  have E2 : wAddL lim e L (putL M) = L := by unfold wAddL; rw [E1, if_neg he]
  rw [E1, E2, ← hM.1] at C
  replace C := Lib.hid C
  clear h he E1 E2 hM
  go_enter Try.func47, Try.ntmps47
  go_wp2_with fail
  refine (cstate_any g e _ H2 H3).mono ?_
  rintro r w1 ⟨rfl, rfl⟩
  go_wp2_with fail
  refine C.out.mono ?_
  rintro r w2 ⟨rfl, hw2, hb2⟩
  have W2 := Lib.hid (And.intro hw2 hb2)
  clear hw2 hb2 C
  go_wp2_with fail
  go_ret
  exact ⟨rfl, W2.out.1, W2.out.2⟩
theorem cWN_negF (g : Nat) (lim : Int) (L : List Nat) (n : Int) (h0 : n < 0) (w : World) (h : Wr w g lim 0 L) :
    Calls Try.prog 47 #[.pointer (some ⟨g, 0, none⟩), .int .i64 n] w fun r w' => r = .returned (.int .i64 3) ∧ Wr w' g lim 3 L ∧ WF g 0 w w' := by
  have H2 := h.c2
  have H3 := h.c3
  have F3 := h.f3
  have HH := Lib.hid h
  have hd : decide (0 ≤ n) = false := decide_eq_false (by omega)
  clear h
  go_enter Try.func47, Try.ntmps47
  go_wp2_with fail
  refine (cstate_any g 0 _ H2 H3).mono ?_
  rintro r w1 ⟨rfl, rfl⟩
  go_wp2
  go_ret
  exact ⟨rfl, HH.out.setErr 3, WF.same ((But.refl _ _).setCell (p := ⟨g, 3, none⟩) (.inl rfl) _) (by simp [go_sem])⟩
theorem cWN_posF (g : Nat) (lim : Int) (L : List Nat) (N : Nat) (hN : N < 9223372036854775808) (w : World) (h : Wr w g lim 0 L) :
    Calls Try.prog 47 #[.pointer (some ⟨g, 0, none⟩), .int .i64 (N : Int)] w fun r w' => r = .returned (.int .i64 (wAddE lim 0 L (putL N))) ∧ Wr w' g lim (wAddE lim 0 L (putL N)) (wAddL lim 0 L (putL N)) ∧ WF g 0 w w' := by
  have H2 := h.c2
  have H3 := h.c3
  have C := Lib.hid (cWU_anyF g lim 0 L N (by omega) w h)
  have hd : decide (0 ≤ (N : Int)) = true := decide_eq_true (by omega)
  have hN2 : (N : Int) < 9223372036854775808 := by omega
  generalize wAddE lim 0 L (putL N) = E at C
  generalize wAddL lim 0 L (putL N) = M at C
  clear h hN
  go_enter Try.func47, Try.ntmps47
  go_wp2_with fail
  refine (cstate_any g 0 _ H2 H3).mono ?_
  rintro r w1 ⟨rfl, rfl⟩
  go_wp2_with fail
  refine C.out.mono ?_
  rintro r w2 ⟨rfl, hw2, hb2⟩
  have W2 := Lib.hid (And.intro hw2 hb2)
  clear hw2 hb2 C
  go_wp2_with fail
  go_ret
  exact ⟨rfl, W2.out.1, W2.out.2⟩
theorem cWN_anyF (g : Nat) (lim e : Int) (L : List Nat) (n : Int) (h0 : -9223372036854775808 ≤ n) (h1 : n ≤ 9223372036854775807) (w : World) (h : Wr w g lim e L) :
    Calls Try.prog 47 #[.pointer (some ⟨g, 0, none⟩), .int .i64 n] w fun r w' => r = .returned (.int .i64 (wNE lim e L n)) ∧ Wr w' g lim (wNE lim e L n) (wNL lim e L n) ∧ WF g 0 w w' := by
  unfold wNE wNL
  by_cases he : e = 0
  · subst he
    rw [if_pos rfl, if_pos rfl]
    by_cases hn : n < 0
    · rw [if_pos hn, if_pos hn]
      exact cWN_negF g lim L n hn w h
    · rw [if_neg hn, if_neg hn]
      obtain ⟨N, rfl⟩ : ∃ N : Nat, n = N := ⟨n.toNat, by omega⟩
      rw [Int.toNat_natCast]
      exact cWN_posF g lim L N (by omega) w h
  · rw [if_neg he, if_neg he]
    exact cWN_errF g lim e L n h0 h1 w h he
end Go.Proofs.Ytlgjdeggbcgbnaa
