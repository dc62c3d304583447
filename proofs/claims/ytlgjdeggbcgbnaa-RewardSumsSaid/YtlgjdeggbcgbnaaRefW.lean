/- distraintref02's Put and Writer, the kit's CopyBytes: told by the same plain functions as codec's. Conditions stand in each lemma. -/
import Derived.Test.YtlgjdeggbcgbnaaRefR
set_option linter.unusedVariables false
set_option linter.unusedSimpArgs false
namespace Go.Proofs.Ytlgjdeggbcgbnaa
open Go.RowKit

theorem own_keep {w w' : World} {base : Nat} {e : TypeId} {sz n : Nat} {v : Value} {xs : List Value} (h : w.ownsRow base e sz v n xs) (hb : Ext w w') : w'.ownsRow base e sz v n xs := by
  refine ⟨h.1, ?_⟩
  rcases h.2 with h2 | ⟨q, cap, cur, e', hq, hq2, rest⟩
  · exact .inl h2
  · exact .inr ⟨q, cap, cur, e', hq, (Below.block hb q (Array.getElem?_eq_some_iff.1 hq2).1).trans hq2, rest⟩
theorem own_one (w : World) (e : TypeId) (x : Value) (h : x.oneCell' = true) : (w.alloc (.cells #[x] e)).ownsRow w.heap.size e 1 (.slice (some ⟨w.heap.size, 0, none⟩) 1 1) 1 [x] :=
  World.ownsRow_lit w #[x] 1 (Nat.le_refl _) (by simp [maxLen]) (by simp)
theorem wrap_u8 (n : Int) : IntKind.u8.wrap n = n % 256 := by unfold IntKind.wrap; simp [IntKind.bits, IntKind.signed]
set_option maxHeartbeats 1000000 in
theorem rPut_ind (b : Nat) : ∀ (N : Nat) (w : World), N ≤ b → N < 18446744073709551616 → Calls Try.prog 50 #[.int .u64 (N : Int)] w (ByRet (putL N) w) := by
  induction b with
  | zero =>
    intro N w hb _
    obtain rfl : N = 0 := by omega
    have h := Lib.hid (putL_lt (n := 0) (by decide))
    go_enter Try.func50, Try.ntmps50
    go_wp2_with fail
    go_ret
    rw [h.out]
    exact ⟨_, rfl, own_one w _ _ rfl, (by repeat (first | assumption | exact Ext.refl _ | refine Ext.drew ?_ | refine Ext.drewN ?_ _ | refine Ext.alloc ?_ _ | refine Ext.setCell ?_ (by first | omega | (simp; done) | (simp; omega)) _ | refine Ext.trans ?_ (by assumption)))⟩
  | succ b ih =>
    intro N w hb hN
    by_cases h1 : N < 128
    · have h := Lib.hid (putL_lt h1)
      have h2 : (N : Int) < 128 := by omega
      have h3 : IntKind.u8.wrap (N : Int) = N := by rw [wrap_u8]; omega
      clear hb ih
      go_enter Try.func50, Try.ntmps50
      go_wp2_with fail
      go_ret
      rw [h.out]
      refine ⟨_, rfl, ?_, (by repeat (first | assumption | exact Ext.refl _ | refine Ext.drew ?_ | refine Ext.drewN ?_ _ | refine Ext.alloc ?_ _ | refine Ext.setCell ?_ (by first | omega | (simp; done) | (simp; omega)) _ | refine Ext.trans ?_ (by assumption)))⟩
      simpa [by_, Int.emod_eq_of_lt (show (0 : Int) ≤ N by omega) (show (N : Int) < 256 by omega)] using own_one w 5 (.int .u8 (N : Int)) rfl
    · have h := Lib.hid (putL_ge h1)
      have h2 : ¬ (N : Int) < 128 := by omega
      have eI : ((N / 128 : Nat) : Int) = (N : Int) / 128 := by omega
      have hI := fun w => ih (N / 128) w (by omega) (by omega)
      rw [eI] at hI
      replace hI := Lib.hid hI
      have ho : bits .or .u8 ((N : Int) % 128) 128 = ((N % 128 + 128 : Nat) : Int) := by
        have := or_all ⟨N % 128, by omega⟩
        simp only at this
        rw [show ((N : Int) % 128) = ((N % 128 : Nat) : Int) from by omega, this]
        simp
      have hl : (putL (N / 128)).length ≤ 10 := putL_len (N / 128) 9 (by omega)
      have HLn := Lib.hid hl
      have hoh := Lib.hid ho
      have hown0 := Lib.hid (own_one w 5 (.int .u8 (bits .or .u8 ((N : Int) % 128) 128)) rfl)
      obtain ⟨i0, hi, hz0, hz1, hz2⟩ := info_parts u8_info
      clear hb ih hl eI ho
      go_enter Try.func50, Try.ntmps50
      go_wp2_with fail
      refine (hI.out _).mono ?_
      rintro r w1 ⟨v, rfl, h3, h4⟩
      obtain ⟨A1, c1, rfl, s1⟩ := own_parts h3
      have hown1 := Lib.hid (own_keep hown0.out h4)
      have hS1 := Lib.hid s1
      have hX1 := Lib.hid h4
      have hz := h4.size
      simp at hz
      clear h3 h4 s1 hown0 hI
      go_wp2_with (at_builtin; refine wpList_append_sl w1 rfl _ _ 40 rfl w.heap.size 5 i0 (.int .u8 0) 1 1 Try.underlying40 hi hz0 hz1 hz2 rfl (by decide) _ 1 [.int .u8 (bits .or .u8 ((N : Int) % 128) 128)] (by rfl) hown1.out A1 (putL (N / 128)).length c1 (by_ (putL (N / 128))) (by rfl) hS1.out by_one (by have := HLn.out; omega) (by decide) (by omega) ?_; intro v2 w2 hown2 hb2; have H2 := Lib.hid (And.intro hown2 hb2); clear hown2 hb2)
      go_ret
      refine ⟨_, rfl, ?_, Ext.below (Ext.trans ((Ext.refl w).alloc _) hX1.out) H2.out.2⟩
      have hh := H2.out.1
      rw [h.out, List.length_cons, Nat.add_comm]
      rw [hoh.out] at hh
      exact hh
theorem rPut_any (N : Nat) (hN : N < 18446744073709551616) (w : World) : Calls Try.prog 50 #[.int .u64 (N : Int)] w (ByRet (putL N) w) := rPut_ind N N w (Nat.le_refl _) hN
set_option maxRecDepth 100000 in
theorem kCopyBytes_any (A : Option Addr) (c : Nat) (L : List Nat) (w : World) (h : Sl w 1 A L.length c (by_ L)) (hn : L.length < 1099511627776) :
    Calls Try.prog 72 #[.slice A L.length c] w (ByRet L w) := by
  obtain ⟨i0, hi, hz0, hz1, hz2⟩ := info_parts u8_info
  have HS := Lib.hid h
  clear h
  generalize hL : L.length = n at *
  replace hL := Lib.hid hL
  go_enter Try.func72, Try.ntmps72
  go_wp2_with (at_builtin; refine wpList_append_sl (w.alloc (.cells #[] 5)) rfl _ _ 40 rfl w.heap.size 5 i0 (.int .u8 0) 1 1 Try.underlying40 hi hz0 hz1 hz2 rfl (by decide) _ 0 [] (by rfl) (own_empty w _ _) A n c (by_ L) (by rfl) (HS.out.ext ((Ext.refl _).alloc _)) by_one (by omega) (by decide) (by simp) ?_; intro v1 w1 hown1 hb1; simp only [Nat.zero_add, List.nil_append] at hown1; have H := Lib.hid (show ByRet L w (.returned v1) w1 from ⟨v1, rfl, by rw [hL.out]; exact hown1, ((Ext.refl w).alloc (.cells #[] 5)).below hb1⟩); clear hown1 hb1)
  go_ret
  exact H.out
theorem rNewReader_any (A : Option Addr) (c : Nat) (L : List Nat) (hB : Byt L) (w : World) (h : Sl w 1 A L.length c (by_ L)) (hn : L.length < 1099511627776) :
    Calls Try.prog 55 #[.slice A L.length c] w fun r w' => ∃ g, r = .returned (.pointer (some ⟨g, 0, none⟩)) ∧ w.heap.size ≤ g ∧ RRd w' g L 0 none ∧ Ext w w' := by
  have C := Lib.hid (kCopyBytes_any A c L w h hn)
  have HB := Lib.hid hB
  clear h hB
  go_enter Try.func55, Try.ntmps55
  go_wp2_with fail
  refine C.out.mono ?_
  rintro r w1 ⟨v, rfl, h1, h2⟩
  obtain ⟨A1, c1, rfl, s1⟩ := own_parts h1
  have hlt : ∀ b o s, A1 = some ⟨b, o, s⟩ → b < w1.heap.size ∧ o = 0 := by
    intro b o s e
    subst e
    refine ⟨h1.lt b rfl |>.2, ?_⟩
    rcases h1.2 with ⟨h', _⟩ | ⟨q, cap, cur, h', _⟩
    · injection h' with h'; cases h'
    · injection h' with h'; injection h' with h'; injection h'
  have H := Lib.hid (And.intro h1 (And.intro h2 (And.intro s1 hlt)))
  clear h1 h2 C s1 hlt
  go_wp2_with fail
  go_ret
  obtain ⟨h1, h2, s1, hlt⟩ := H.out
  have hz := h2.size
  exact ⟨w1.heap.size, rfl, hz, ⟨⟨A1, c1, by simp [go_sem], s1.ext ((Ext.refl _).alloc _), hlt⟩, ⟨0, by simp [go_sem], Nat.zero_le _, fun _ => rfl⟩, by simp [go_sem, fltE], by simp [go_sem, fltA], by simp [go_sem], by simp [go_sem], by simp [go_sem], by simp, Nat.zero_le _, HB.out, FltNz.none, _, _, heap_alloc_new w1 _⟩, h2.alloc _⟩
/-- U: the number, the place, the fault -/
def ruE (L : List Nat) (k : Nat) : Int := (numGo (L.drop k) 0 0).2.2
def ruV (L : List Nat) (k : Nat) (f : Option (Int × Int)) : Int := if f = none ∧ ruE L k = 0 then ((numGo (L.drop k) 0 0).1 : Int) else 0
def ruK (L : List Nat) (k : Nat) (f : Option (Int × Int)) : Nat := if f = none ∧ ruE L k = 0 then k + (numGo (L.drop k) 0 0).2.1 else k
def ruF (L : List Nat) (k : Nat) (f : Option (Int × Int)) : Option (Int × Int) := if f = none then failF none (ruE L k) k else f
/-- a reference writer lies at block g: its limit, its error, what was written (in a row beyond g) -/
structure RWr (w : World) (g : Nat) (lim err : Int) (L : List Nat) : Prop where
  b : ∃ A c, w.cell? ⟨g, 1, none⟩ = some (.slice A L.length c) ∧ w.ownsRow (g + 1) 5 1 (.slice A L.length c) L.length (by_ L)
  c0 : w.cell? ⟨g, 0, none⟩ = some (.int .i64 lim)
  c2 : w.cell? ⟨g, 2, none⟩ = some (.int .i64 err)
  f1 : w.frozen? ⟨g, 1, none⟩ = false
  f2 : w.frozen? ⟨g, 2, none⟩ = false
  lt : g < w.heap.size
  short : L.length ≤ 1048576
  l0 : 0 ≤ lim
  l1 : lim ≤ 1048576
theorem RWr.keep {w w' : World} {g : Nat} {lim err : Int} {L : List Nat} (h : RWr w g lim err L) (hb : Ext w w') : RWr w' g lim err L := by
  obtain ⟨A, c, h0, h1⟩ := h.b
  have cl : ∀ o, w'.cell? ⟨g, o, none⟩ = w.cell? ⟨g, o, none⟩ := fun o => Below.cell hb (p := ⟨g, o, none⟩) h.lt
  have fl : ∀ o, w'.frozen? ⟨g, o, none⟩ = w.frozen? ⟨g, o, none⟩ := fun o => Below.frozen hb (p := ⟨g, o, none⟩) h.lt
  have hs := hb.size
  exact ⟨⟨A, c, (cl 1).trans h0, own_keep h1 hb⟩, (cl 0).trans h.c0, (cl 2).trans h.c2, (fl 1).trans h.f1, (fl 2).trans h.f2, by have := h.lt; omega, h.short, h.l0, h.l1⟩
theorem RWr.ext {w w' : World} {g : Nat} {lim err : Int} {L : List Nat} (h : RWr w g lim err L) (hb : Ext w w') : RWr w' g lim err L := h.keep hb
theorem RWr.setErr {w : World} {g : Nat} {lim err : Int} {L : List Nat} (h : RWr w g lim err L) (e : Int) : RWr (w.setCell ⟨g, 2, none⟩ (.int .i64 e)) g lim e L := by
  obtain ⟨A, c, h0, h1⟩ := h.b
  have c0 := h.c0
  have c2 := h.c2
  have f1 := h.f1
  have f2 := h.f2
  exact ⟨⟨A, c, by simp [go_sem, h0], ownsRow_setCell_below h1 (by simp) _⟩, by simp [go_sem, c0], by simp [go_sem, c2], by simp [go_sem, f1], by simp [go_sem, f2], by simpa using h.lt, h.short, h.l0, h.l1⟩
end Go.Proofs.Ytlgjdeggbcgbnaa
