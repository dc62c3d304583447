/- distraintref02's Put and Writer, the kit's CopyBytes: told by the same plain functions as codec's. Conditions stand in each lemma. -/
import Derived.Test.YtjdpgapmdmpjjaaRefR
set_option linter.unusedVariables false
set_option linter.unusedSimpArgs false
namespace Go.Proofs.Ytjdpgapmdmpjjaa
open Go.RowKit

theorem own_keep {w w' : World} {base : Nat} {e : TypeId} {sz n : Nat} {v : Value} {xs : List Value} (h : w.ownsRow base e sz v n xs) (hb : Ext w w') : w'.ownsRow base e sz v n xs := by
  refine ⟨h.1, ?_⟩
  rcases h.2 with h2 | ⟨q, cap, cur, e', hq, hq2, rest⟩
  · exact .inl h2
  · exact .inr ⟨q, cap, cur, e', hq, (Below.block hb q (Array.getElem?_eq_some_iff.1 hq2).1).trans hq2, rest⟩
theorem own_one (w : World) (e : TypeId) (x : Value) (h : x.oneCell' = true) : (w.alloc (.cells #[x] e)).ownsRow w.heap.size e 1 (.slice (some ⟨w.heap.size, 0, none⟩) 1 1) 1 [x] :=
  World.ownsRow_lit w #[x] 1 (Nat.le_refl _) (by simp [maxLen]) (by simp)
theorem wrap_u8 (n : Int) : IntKind.u8.wrap n = n % 256 := by unfold IntKind.wrap; simp [IntKind.bits, IntKind.signed]
set_option maxHeartbeats 1000000 in
theorem rPut_ind (b : Nat) : ∀ (N : Nat) (w : World), N ≤ b → N < 18446744073709551616 → Calls Try.prog 104 #[.int .u64 (N : Int)] w (ByRet (putL N) w) := by
  induction b with
  | zero =>
    intro N w hb _
    obtain rfl : N = 0 := by omega
    have h := Lib.hid (putL_lt (n := 0) (by decide))
    go_enter Try.func104, Try.ntmps104
    go_wp2_with fail
    go_ret
    rw [h.out]
    exact ⟨_, rfl, own_one w _ _ rfl, (by repeat (first | assumption | exact Ext.refl _ | refine Ext.drew ?_ | refine Ext.drewN ?_ _ | refine Ext.alloc ?_ _ | refine Ext.setCell ?_ (by first | omega | (simp; done) | (simp; omega)) _ | refine Ext.trans ?_ (by assumption)))⟩
  | succ b ih =>
    intro N w hb hN
    by_cases h1 : N < 128
    · have h := Lib.hid (putL_lt h1)
      have h2 : (N : Int) < 128 := by omega
      have h3 : IntKind.u8.wrap (N : Int) = N := by rw [wrap_u8]; omega
      clear hb ih
      go_enter Try.func104, Try.ntmps104
      go_wp2_with fail
      go_ret
      rw [h.out]
      refine ⟨_, rfl, ?_, (by repeat (first | assumption | exact Ext.refl _ | refine Ext.drew ?_ | refine Ext.drewN ?_ _ | refine Ext.alloc ?_ _ | refine Ext.setCell ?_ (by first | omega | (simp; done) | (simp; omega)) _ | refine Ext.trans ?_ (by assumption)))⟩
      simpa [by_, Int.emod_eq_of_lt (show (0 : Int) ≤ N by omega) (show (N : Int) < 256 by omega)] using own_one w 5 (.int .u8 (N : Int)) rfl
    · have h := Lib.hid (putL_ge h1)
      have h2 : ¬ (N : Int) < 128 := by omega
      have eI : ((N / 128 : Nat) : Int) = (N : Int) / 128 := by omega
      have hI := fun w => ih (N / 128) w (by omega) (by omega)
      rw [eI] at hI
      replace hI := Lib.hid hI
      have ho : bits .or .u8 ((N : Int) % 128) 128 = ((N % 128 + 128 : Nat) : Int) := by
        have := or_all ⟨N % 128, by omega⟩
        simp only at this
        rw [show ((N : Int) % 128) = ((N % 128 : Nat) : Int) from by omega, this]
        simp
      have hl : (putL (N / 128)).length ≤ 10 := putL_len (N / 128) 9 (by omega)
      have HLn := Lib.hid hl
      have hoh := Lib.hid ho
      have hown0 := Lib.hid (own_one w 5 (.int .u8 (bits .or .u8 ((N : Int) % 128) 128)) rfl)
      obtain ⟨i0, hi, hz0, hz1, hz2⟩ := info_parts u8_info
      clear hb ih hl eI ho
      go_enter Try.func104, Try.ntmps104
      go_wp2_with fail
      refine (hI.out _).mono ?_
      rintro r w1 ⟨v, rfl, h3, h4⟩
      obtain ⟨A1, c1, rfl, s1⟩ := own_parts h3
      have hown1 := Lib.hid (own_keep hown0.out h4)
      have hS1 := Lib.hid s1
      have hX1 := Lib.hid h4
      have hz := h4.size
      simp at hz
      clear h3 h4 s1 hown0 hI
      go_wp2_with (at_builtin; refine wpList_append_sl w1 rfl _ _ 56 rfl w.heap.size 5 i0 (.int .u8 0) 1 1 Try.underlying56 hi hz0 hz1 hz2 rfl (by decide) _ 1 [.int .u8 (bits .or .u8 ((N : Int) % 128) 128)] (by rfl) hown1.out A1 (putL (N / 128)).length c1 (by_ (putL (N / 128))) (by rfl) hS1.out by_one (by have := HLn.out; omega) (by decide) (by omega) ?_; intro v2 w2 hown2 hb2; have H2 := Lib.hid (And.intro hown2 hb2); clear hown2 hb2)
      go_ret
      refine ⟨_, rfl, ?_, Ext.below (Ext.trans ((Ext.refl w).alloc _) hX1.out) H2.out.2⟩
      have hh := H2.out.1
      rw [h.out, List.length_cons, Nat.add_comm]
      rw [hoh.out] at hh
      exact hh
theorem rPut_any (N : Nat) (hN : N < 18446744073709551616) (w : World) : Calls Try.prog 104 #[.int .u64 (N : Int)] w (ByRet (putL N) w) := rPut_ind N N w (Nat.le_refl _) hN
set_option maxRecDepth 100000 in
theorem kCopyBytes_any (A : Option Addr) (c : Nat) (L : List Nat) (w : World) (h : Sl w 1 A L.length c (by_ L)) (hn : L.length < 1099511627776) :
    Calls Try.prog 64 #[.slice A L.length c] w (ByRet L w) := by
  obtain ⟨i0, hi, hz0, hz1, hz2⟩ := info_parts u8_info
  have HS := Lib.hid h
  clear h
  generalize hL : L.length = n at *
  replace hL := Lib.hid hL
  go_enter Try.func64, Try.ntmps64
  go_wp2_with (at_builtin; refine wpList_append_sl (w.alloc (.cells #[] 5)) rfl _ _ 56 rfl w.heap.size 5 i0 (.int .u8 0) 1 1 Try.underlying56 hi hz0 hz1 hz2 rfl (by decide) _ 0 [] (by rfl) (own_empty w _ _) A n c (by_ L) (by rfl) (HS.out.ext ((Ext.refl _).alloc _)) by_one (by omega) (by decide) (by simp) ?_; intro v1 w1 hown1 hb1; simp only [Nat.zero_add, List.nil_append] at hown1; have H := Lib.hid (show ByRet L w (.returned v1) w1 from ⟨v1, rfl, by rw [hL.out]; exact hown1, ((Ext.refl w).alloc (.cells #[] 5)).below hb1⟩); clear hown1 hb1)
  go_ret
  exact H.out
theorem rNewReader_any (A : Option Addr) (c : Nat) (L : List Nat) (hB : Byt L) (w : World) (h : Sl w 1 A L.length c (by_ L)) (hn : L.length < 1099511627776) :
    Calls Try.prog 116 #[.slice A L.length c] w fun r w' => ∃ g, r = .returned (.pointer (some ⟨g, 0, none⟩)) ∧ w.heap.size ≤ g ∧ RRd w' g L 0 none ∧ Ext w w' := by
  have C := Lib.hid (kCopyBytes_any A c L w h hn)
  have HB := Lib.hid hB
  clear h hB
  go_enter Try.func116, Try.ntmps116
  go_wp2_with fail
  refine C.out.mono ?_
  rintro r w1 ⟨v, rfl, h1, h2⟩
  obtain ⟨A1, c1, rfl, s1⟩ := own_parts h1
  have hlt : ∀ b o s, A1 = some ⟨b, o, s⟩ → b < w1.heap.size ∧ o = 0 := by
    intro b o s e
    subst e
    refine ⟨h1.lt b rfl |>.2, ?_⟩
    rcases h1.2 with ⟨h', _⟩ | ⟨q, cap, cur, h', _⟩
    · injection h' with h'; cases h'
    · injection h' with h'; injection h' with h'; injection h'
  have H := Lib.hid (And.intro h1 (And.intro h2 (And.intro s1 hlt)))
  clear h1 h2 C s1 hlt
  go_wp2_with fail
  go_ret
  obtain ⟨h1, h2, s1, hlt⟩ := H.out
  have hz := h2.size
  exact ⟨w1.heap.size, rfl, hz, ⟨⟨A1, c1, by simp [go_sem], s1.ext ((Ext.refl _).alloc _), hlt⟩, ⟨0, by simp [go_sem], Nat.zero_le _, fun _ => rfl⟩, by simp [go_sem, fltE], by simp [go_sem, fltA], by simp [go_sem], by simp [go_sem], by simp [go_sem], by simp, Nat.zero_le _, HB.out, FltNz.none, _, _, heap_alloc_new w1 _⟩, h2.alloc _⟩
/-- U: the number, the place, the fault -/
def ruE (L : List Nat) (k : Nat) : Int := (numGo (L.drop k) 0 0).2.2
def ruV (L : List Nat) (k : Nat) (f : Option (Int × Int)) : Int := if f = none ∧ ruE L k = 0 then ((numGo (L.drop k) 0 0).1 : Int) else 0
def ruK (L : List Nat) (k : Nat) (f : Option (Int × Int)) : Nat := if f = none ∧ ruE L k = 0 then k + (numGo (L.drop k) 0 0).2.1 else k
def ruF (L : List Nat) (k : Nat) (f : Option (Int × Int)) : Option (Int × Int) := if f = none then failF none (ruE L k) k else f
/-- a reference writer lies at block g: its limit, its error, what was written (in a row beyond g) -/
structure RWr (w : World) (g : Nat) (lim err : Int) (L : List Nat) : Prop where
  b : ∃ A c, w.cell? ⟨g, 1, none⟩ = some (.slice A L.length c) ∧ w.ownsRow (g + 1) 5 1 (.slice A L.length c) L.length (by_ L)
  c0 : w.cell? ⟨g, 0, none⟩ = some (.int .i64 lim)
  c2 : w.cell? ⟨g, 2, none⟩ = some (.int .i64 err)
  f1 : w.frozen? ⟨g, 1, none⟩ = false
  f2 : w.frozen? ⟨g, 2, none⟩ = false
  lt : g < w.heap.size
  short : L.length ≤ 1048576
  l0 : 0 ≤ lim
  l1 : lim ≤ 1048576
theorem RWr.keep {w w' : World} {g : Nat} {lim err : Int} {L : List Nat} (h : RWr w g lim err L) (hb : Ext w w') : RWr w' g lim err L := by
  obtain ⟨A, c, h0, h1⟩ := h.b
  have cl : ∀ o, w'.cell? ⟨g, o, none⟩ = w.cell? ⟨g, o, none⟩ := fun o => Below.cell hb (p := ⟨g, o, none⟩) h.lt
  have fl : ∀ o, w'.frozen? ⟨g, o, none⟩ = w.frozen? ⟨g, o, none⟩ := fun o => Below.frozen hb (p := ⟨g, o, none⟩) h.lt
  have hs := hb.size
  exact ⟨⟨A, c, (cl 1).trans h0, own_keep h1 hb⟩, (cl 0).trans h.c0, (cl 2).trans h.c2, (fl 1).trans h.f1, (fl 2).trans h.f2, by have := h.lt; omega, h.short, h.l0, h.l1⟩
theorem RWr.ext {w w' : World} {g : Nat} {lim err : Int} {L : List Nat} (h : RWr w g lim err L) (hb : Ext w w') : RWr w' g lim err L := h.keep hb
theorem RWr.setErr {w : World} {g : Nat} {lim err : Int} {L : List Nat} (h : RWr w g lim err L) (e : Int) : RWr (w.setCell ⟨g, 2, none⟩ (.int .i64 e)) g lim e L := by
  obtain ⟨A, c, h0, h1⟩ := h.b
  have c0 := h.c0
  have c2 := h.c2
  have f1 := h.f1
  have f2 := h.f2
  exact ⟨⟨A, c, by simp [go_sem, h0], ownsRow_setCell_below h1 (by simp) _⟩, by simp [go_sem, c0], by simp [go_sem, c2], by simp [go_sem, f1], by simp [go_sem, f2], by simpa using h.lt, h.short, h.l0, h.l1⟩
set_option maxHeartbeats 1000000 in
theorem rWAdd_err (g : Nat) (lim e : Int) (L : List Nat) (B : Option Addr) (m d : Nat) (w : World) (h : RWr w g lim e L) (he : ¬ e = 0) :
    Calls Try.prog 140 #[.pointer (some ⟨g, 0, none⟩), .slice B m d] w fun r w' => r = .returned (.int .i64 e) ∧ Drw w w' := by
  have H2 := h.c2
  have H0 := h.c0
  obtain ⟨A, c, H1, _⟩ := h.b
  have hef : (e == 0) = false := beq_false_of_ne he
  clear h he
  go_enter Try.func140, Try.ntmps140
  go_wp2_with fail
  go_quiet (fail)
  go_wp2_with fail
  go_ret
  exact ⟨rfl, (Drw.refl _).drewN _⟩
set_option maxHeartbeats 1000000 in
theorem rWAdd_long (g : Nat) (lim : Int) (L : List Nat) (B : Option Addr) (m d : Nat) (w : World) (h : RWr w g lim 0 L) (hm : m ≤ 1048576) (hl : lim - L.length < m) :
    Calls Try.prog 140 #[.pointer (some ⟨g, 0, none⟩), .slice B m d] w fun r w' => r = .returned (.int .i64 4) ∧ RWr w' g lim 4 L ∧ Below g w w' := by
  have H2 := h.c2
  have H0 := h.c0
  obtain ⟨A, c, H1, hown⟩ := h.b
  have F2 := h.f2
  have l2 := h.short
  have HH := Lib.hid h
  clear hown h
  generalize L.length = N at *
  have e1 : decide (lim < (N : Int) + (m : Int)) = true := decide_eq_true (by omega)
  have eq1 : IntKind.i64.wrap ((N : Int) + m) = N + m := IntWalk.i64_in _ (by omega)
  go_enter Try.func140, Try.ntmps140
  go_wp2_with fail
  go_quiet (fail)
  go_wp2
  go_ret
  exact ⟨rfl, (HH.out.keep ((Ext.refl _).drewN _)).setErr 4, (below_drewN (Below.refl _ _) _).setCell (p := ⟨g, 2, none⟩) (Nat.le_refl _) _⟩
set_option maxHeartbeats 1000000 in
theorem rWAdd_ok (g : Nat) (lim : Int) (L bl : List Nat) (B : Option Addr) (m d : Nat) (w : World) (h : RWr w g lim 0 L) (hS : Sl w 1 B m d (by_ bl)) (hl : ¬ lim - L.length < m) :
    Calls Try.prog 140 #[.pointer (some ⟨g, 0, none⟩), .slice B m d] w fun r w' => r = .returned (.int .i64 0) ∧ RWr w' g lim 0 (L ++ bl) ∧ Below g w w' := by
  obtain ⟨i0, hi, hz0, hz1, hz2⟩ := info_parts u8_info
  have hbm : bl.length = m := by have := hS.len; rw [by_len] at this; omega
  have H2 := h.c2
  have H0 := h.c0
  obtain ⟨A, c, H1, hown⟩ := h.b
  have F1 := h.f1
  have l0 := h.l0
  have l1 := h.l1
  have l2 := h.short
  have lt := h.lt
  have HH := Lib.hid h
  have HO := Lib.hid hown
  have HS := Lib.hid hS
  have hmn : (m : Int) ≤ 1048576 := by omega
  have hbm := Lib.hid hbm
  clear h hown hS
  generalize hLn : L.length = N at *
  replace hLn := Lib.hid hLn
  have hln : (N : Int) ≤ 1048576 := by omega
  have hle : (N : Int) + m ≤ lim := by omega
  have e1 : decide (lim < (N : Int) + (m : Int)) = false := decide_eq_false (by omega)
  have eq1 : IntKind.i64.wrap ((N : Int) + m) = N + m := IntWalk.i64_in _ (by omega)
  clear hl
  go_enter Try.func140, Try.ntmps140
  go_wp2_with fail
  go_quiet (fail)
  clear eq1
  go_wp2_with (at_builtin; refine wpList_append_sl (w.drewN nq) rfl _ _ 56 rfl (g + 1) 5 i0 (.int .u8 0) 1 1 Try.underlying56 hi hz0 hz1 hz2 rfl (by decide) _ N (by_ L) (by rfl) HO.out B m d (by_ bl) (by rfl) (HS.out.ext ((Ext.refl _).drewN _)) by_one (by omega) (by decide) (by simp; omega) ?_; intro v1 w1 hown1 hb1; obtain ⟨A1, c1, rfl, s1⟩ := own_parts hown1; have q0 : w1.cell? ⟨g, 1, none⟩ = some (.slice A N c) := (hb1.cell (p := ⟨g, 1, none⟩) (by simp)).trans H1; have q1 : w1.frozen? ⟨g, 1, none⟩ = false := (hb1.frozen (p := ⟨g, 1, none⟩) (by simp)).trans F1; have q2 : w1.cell? ⟨g, 2, none⟩ = some (.int .i64 0) := (hb1.cell (p := ⟨g, 2, none⟩) (by simp)).trans H2; have HB := Lib.hid hb1; have HW := Lib.hid hown1; clear hb1 hown1 s1)
  go_ret
  refine ⟨rfl, ?_, ?_⟩
  · have hb := HB.out
    have hh := HH.out
    have eL : (L ++ bl).length = N + m := by rw [List.length_append, hLn.out, hbm.out]
    have cl : ∀ o, w1.cell? ⟨g, o, none⟩ = w.cell? ⟨g, o, none⟩ := fun o => hb.cell (p := ⟨g, o, none⟩) (by simp)
    have fl : ∀ o, w1.frozen? ⟨g, o, none⟩ = w.frozen? ⟨g, o, none⟩ := fun o => hb.frozen (p := ⟨g, o, none⟩) (by simp)
    have e1 := cl 1; have e0 := (cl 0).trans hh.c0; have e2 := (cl 2).trans hh.c2
    have g1 := (fl 1).trans hh.f1; have g2 := (fl 2).trans hh.f2
    have hs := hb.size
    simp at hs
    refine ⟨⟨A1, c1, by rw [eL]; simp [go_sem, q0], ?_⟩, by simp [go_sem, e0], by simp [go_sem, e2], by simp [go_sem, g1], by simp [go_sem, g2], by simp; omega, by rw [eL]; omega, l0, l1⟩
    rw [eL, ← by_append]
    exact ownsRow_setCell_below HW.out (by simp) _
  · have hbg : Below g (w.drewN nq) w1 := HB.out.mono (Nat.le_succ g)
    exact ((below_drewN (Below.refl g w) nq).trans hbg).setCell (p := ⟨g, 1, none⟩) (Nat.le_refl _) _
theorem rWAdd_any (g : Nat) (lim e : Int) (L bl : List Nat) (B : Option Addr) (m d : Nat) (w : World) (h : RWr w g lim e L) (hS : Sl w 1 B m d (by_ bl)) (hm : m ≤ 1048576) :
    Calls Try.prog 140 #[.pointer (some ⟨g, 0, none⟩), .slice B m d] w fun r w' => r = .returned (.int .i64 (wAddE lim e L bl)) ∧ RWr w' g lim (wAddE lim e L bl) (wAddL lim e L bl) ∧ Below g w w' := by
  have hbm : bl.length = m := by have := hS.len; rw [by_len] at this; omega
  unfold wAddL wAddE
  rw [hbm]
  by_cases he : e = 0
  · subst he
    rw [if_pos rfl]
    by_cases hl : lim - L.length < m
    · rw [if_pos hl, if_neg (by decide)]
      exact rWAdd_long g lim L B m d w h hm hl
    · rw [if_neg hl, if_pos rfl]
      exact rWAdd_ok g lim L bl B m d w h hS hl
  · rw [if_neg he, if_neg he]
    refine (rWAdd_err g lim e L B m d w h he).mono ?_
    rintro r w' ⟨h1, hd⟩
    exact ⟨h1, h.keep hd.ext, Below.mono hd.ext (Nat.le_of_lt h.lt)⟩
theorem rWN_neg (g : Nat) (lim e : Int) (L : List Nat) (n : Int) (h0 : n < 0) (w : World) (h : RWr w g lim e L) :
    Calls Try.prog 123 #[.pointer (some ⟨g, 0, none⟩), .int .i64 n] w fun r w' => r = .returned (.int .i64 (if e = 0 then 3 else e)) ∧ RWr w' g lim (if e = 0 then 3 else e) L ∧ Below g w w' := by
  have H2 := h.c2
  have F2 := h.f2
  have HH := Lib.hid h
  clear h
  by_cases he : e = 0
  · subst he
    simp only [if_true]
    go_enter Try.func123, Try.ntmps123
    go_wp2
    go_ret
    exact ⟨rfl, HH.out.setErr 3, (Below.refl _ _).setCell (p := ⟨g, 2, none⟩) (Nat.le_refl _) _⟩
  · simp only [if_neg he]
    have hef : (e == 0) = false := beq_false_of_ne he
    clear he
    go_enter Try.func123, Try.ntmps123
    go_wp2
    go_ret
    exact ⟨rfl, HH.out, Below.refl _ _⟩
theorem rWN_pos (g : Nat) (lim e : Int) (L : List Nat) (N : Nat) (hN : N < 9223372036854775808) (w : World) (h : RWr w g lim e L) :
    Calls Try.prog 123 #[.pointer (some ⟨g, 0, none⟩), .int .i64 (N : Int)] w fun r w' => r = .returned (.int .i64 (wAddE lim e L (putL N))) ∧ RWr w' g lim (wAddE lim e L (putL N)) (wAddL lim e L (putL N)) ∧ Below g w w' := by
  have H := Lib.hid h
  have hn : ¬ (N : Int) < 0 := by omega
  have hN2 : (N : Int) < 9223372036854775808 := by omega
  have CP := Lib.hid (fun w => rPut_any N (by omega) w)
  have hp : (putL N).length ≤ 1048576 := by have := putL_len N 9 (by omega); omega
  have HP := Lib.hid hp
  obtain ⟨E, hE⟩ : ∃ E, E = wAddE lim e L (putL N) := ⟨_, rfl⟩
  obtain ⟨M, hM⟩ : ∃ M, M = wAddL lim e L (putL N) := ⟨_, rfl⟩
  rw [← hE, ← hM]
  have HE := Lib.hid (And.intro hE hM)
  clear h hE hM hp hN
  go_enter Try.func123, Try.ntmps123
  go_wp2_with fail
  refine (CP.out _).mono ?_
  rintro r w1 ⟨v, rfl, h1, hx1⟩
  obtain ⟨A1, c1, rfl, s1⟩ := own_parts h1
  have C := rWAdd_any g lim e L (putL N) A1 (putL N).length c1 w1 (H.out.keep hx1) s1 HP.out
  rw [← HE.out.1, ← HE.out.2] at C
  replace C := Lib.hid C
  have X1 := Lib.hid (And.intro hx1 H.out.lt)
  clear h1 s1 hx1
  go_wp2_with fail
  refine C.out.mono ?_
  rintro r w2 ⟨rfl, hw2, hb2⟩
  have W2 := Lib.hid (And.intro hw2 hb2)
  clear hw2 hb2 C
  go_wp2_with fail
  go_ret
  exact ⟨rfl, W2.out.1, (X1.out.1.mono (by have := X1.out.2; omega)).trans W2.out.2⟩
theorem rWN_any (g : Nat) (lim e : Int) (L : List Nat) (n : Int) (h0 : -9223372036854775808 ≤ n) (h1 : n ≤ 9223372036854775807) (w : World) (h : RWr w g lim e L) :
    Calls Try.prog 123 #[.pointer (some ⟨g, 0, none⟩), .int .i64 n] w fun r w' => r = .returned (.int .i64 (wNE lim e L n)) ∧ RWr w' g lim (wNE lim e L n) (wNL lim e L n) ∧ Below g w w' := by
  unfold wNE wNL
  by_cases hn : n < 0
  · refine (rWN_neg g lim e L n hn w h).mono ?_
    rintro r w' ⟨h2, h3, h4⟩
    by_cases he : e = 0
    · subst he
      simp only [if_true, if_pos hn] at h2 h3 ⊢
      exact ⟨h2, h3, h4⟩
    · simp only [if_neg he] at h2 h3 ⊢
      exact ⟨h2, h3, h4⟩
  · obtain ⟨N, rfl⟩ : ∃ N : Nat, n = N := ⟨n.toNat, by omega⟩
    refine (rWN_pos g lim e L N (by omega) w h).mono ?_
    rintro r w' ⟨h2, h3, h4⟩
    by_cases he : e = 0
    · subst he
      simp only [if_true, if_neg hn, Int.toNat_natCast]
      exact ⟨h2, h3, h4⟩
    · have E1 : wAddE lim e L (putL N) = e := if_neg he
      have E2 : wAddL lim e L (putL N) = L := by unfold wAddL; rw [E1, if_neg he]
      rw [E1, E2] at h3
      rw [E1] at h2
      simp only [if_neg he]
      exact ⟨h2, h3, h4⟩
theorem rNewWriter_any (lim : Int) (h0 : 0 ≤ lim) (h1 : lim ≤ 1048576) (w : World) :
    Calls Try.prog 122 #[.int .i64 lim] w fun r w' => r = .returned (.tuple #[.pointer (some ⟨w.heap.size, 0, none⟩), .int .i64 0]) ∧ RWr w' w.heap.size lim 0 [] ∧ Ext w w' := by
  have hn : ¬ lim < 0 := by omega
  have hm : ¬ (1048576 : Int) < lim := by omega
  go_enter Try.func122, Try.ntmps122
  go_wp2
  go_ret2
  exact ⟨rfl, ⟨⟨none, 0, by simp [go_sem], World.ownsRow_nil _ _ _ _⟩, by simp [go_sem], by simp [go_sem], by simp [go_sem], by simp [go_sem], by simp, by simp, h0, h1⟩, (by repeat (first | assumption | exact Ext.refl _ | refine Ext.drew ?_ | refine Ext.drewN ?_ _ | refine Ext.alloc ?_ _ | refine Ext.setCell ?_ (by first | omega | (simp; done) | (simp; omega)) _ | refine Ext.trans ?_ (by assumption)))⟩
theorem rDone_any (g : Nat) (lim e : Int) (L : List Nat) (w : World) (h : RWr w g lim e L) :
    Calls Try.prog 126 #[.pointer (some ⟨g, 0, none⟩)] w (ByErr (if e = 0 then L else []) e w) := by
  have H2 := h.c2
  obtain ⟨A, c, H1, hown⟩ := h.b
  by_cases he : e = 0
  · subst he
    rw [if_pos rfl]
    have hs := Sl.own hown
    have C := Lib.hid (kCopyBytes_any A c L w hs (by have := h.short; omega))
    clear h hown hs
    go_enter Try.func126, Try.ntmps126
    go_wp2_with fail
    refine C.out.mono ?_
    rintro r w1 ⟨v, rfl, h1, h2⟩
    have H := Lib.hid (And.intro h1 h2)
    clear h1 h2 C
    go_wp2_with fail
    go_ret2
    exact ⟨_, rfl, H.out.1, H.out.2⟩
  · rw [if_neg he]
    have hef : (e == 0) = false := beq_false_of_ne he
    have hef2 : (e != 0) = true := by simpa using he
    clear h hown
    go_enter Try.func126, Try.ntmps126
    go_wp2_with fail
    go_quiet (fail)
    go_wp2_with fail
    go_ret2
    exact ⟨_, rfl, World.ownsRow_nil _ _ _ _, (Ext.refl _).drewN _⟩
end Go.Proofs.Ytjdpgapmdmpjjaa
