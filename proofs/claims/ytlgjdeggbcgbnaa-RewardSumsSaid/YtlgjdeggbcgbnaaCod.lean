/- codec, further: a reader's U, the reference's writer's U, writes that fit. Conditions stand in each lemma. -/
import Derived.Test.YtlgjdeggbcgbnaaRefN
import Derived.Test.YtlgjdeggbcgbnaaLow
import Derived.Test.YtlgjdeggbcgbnaaWF
set_option linter.unusedVariables false
set_option linter.unusedSimpArgs false
namespace Go.Proofs.Ytlgjdeggbcgbnaa
open Go.RowKit

theorem Wr.ext {w w' : World} {g : Nat} {lim err : Int} {L : List Nat} (h : Wr w g lim err L) (hb : Ext w w') : Wr w' g lim err L := h.keep hb
theorem Rd.ext {w w' : World} {g k : Nat} {L : List Nat} {flt : Option (Int × Int)} (h : Rd w g L k flt) (hb : Ext w w') : Rd w' g L k flt := h.keep hb
def RdPU (g : Nat) (L : List Nat) (W : World) (v : Int) (k : Nat) (flt : Option (Int × Int)) (r : Ending) (w' : World) : Prop := r = .returned (.int .u64 v) ∧ Rd w' g L k flt ∧ But (· = g) W w'
theorem creadU_old (g k : Nat) (L : List Nat) (x : Int × Int) (v : Value) (w : World) (h : Rd w g L k (some x)) :
    Calls Try.prog 70 #[.pointer (some ⟨g, 0, none⟩), v] w fun r w' => r = .returned (.int .u64 0) ∧ w = w' := by
  have H2 := h.c2
  obtain ⟨v, H3, fb, rfl, _⟩ := h.c3
  clear h
  go_enter Try.func70, Try.ntmps70
  go_wp2_with fail
  refine (cnone_any g _ H2).mono ?_
  rintro r w1 ⟨rfl, rfl⟩
  go_wp2
  go_ret
  exact ⟨rfl, rfl⟩
set_option maxRecDepth 100000 in
set_option maxHeartbeats 1000000 in
theorem creadU_go (g k : Nat) (L : List Nat) (n kk e : Int) (W : World) (h : Rd W g L k none) (hle : 0 ≤ kk) (hk2 : (k : Int) + kk ≤ L.length) (hL : L.length < 1099511627776)
    (CN : Hid (∀ (A : Option Addr) (c : Nat) (w : World), Sl w 1 A (L.length - k) c (by_ (L.drop k)) → (∀ b, w.cell? b = W.cell? b) → Calls Try.prog 69 #[.slice A (L.length - k) c] w fun r w' => r = .returned (.tuple #[.int .u64 n, .int .i64 kk, .int .i64 e]) ∧ w = w')) :
    Calls Try.prog 70 #[.pointer (some ⟨g, 0, none⟩), .func (.func 69) #[] #[]] W fun r w' => r = .returned (.int .u64 (if e = 0 then n else 0)) ∧ Rd w' g L (if e = 0 then k + kk.toNat else k) (failF none e k) ∧ But (· = g) W w' := by
  have H2 := h.c2
  have H1 := h.c1
  obtain ⟨v, H3, rfl⟩ := h.c3
  obtain ⟨A, c, H0, hs, _⟩ := h.b
  have hkl := h.le
  have hd := Lib.hid (hs.bdrop hkl)
  have F1 := h.f1
  have HH := Lib.hid h
  have hsm := hs.small
  have hcs : L.length ≤ c := hs.2.1
  clear h hs
  generalize hN : L.length = N at *
  replace hN := Lib.hid hN
  obtain ⟨A2, hA2⟩ : ∃ A2, A2 = (if c = k then A else A.map (·.add (k * 1))) := ⟨_, rfl⟩
  rw [← hA2] at hd
  have hsl : ∀ w, (Instr.slice 40 (.slice A N c) (some (.int .i64 (k : Int))) none none).run Try.prog w = .ok (.slice A2 (N - k) (c - k)) w := by
    intro w
    have hq := run_slice_l (P := Try.prog) (w := w) 40 A N c (by kernel_rfl) .i64 (k : Int) (by omega) (by omega)
    rw [hq, hA2]
    simp [go_sem, sizeOf_u8 w]
  replace hA2 := Lib.hid hA2
  have hkI : (k : Int) ≤ N := by omega
  by_cases he : e = 0
  · subst he
    rw [if_pos rfl, if_pos rfl]
    show Calls _ _ _ _ (RdPU g L W n (k + kk.toNat) none)
    go_enter Try.func70, Try.ntmps70
    go_wp2_with fail
    refine (cnone_any g _ H2).mono ?_
    rintro r w1 ⟨rfl, rfl⟩
    go_wp2_with fail
    go_quiet ((go_at_call 69; exact Calls.quiet_of_same ((CN.out A2 (c - k) _ (hd.out.ext ((Ext.refl _).drewN _)) (fun _ => rfl)).mono fun r w' h => ⟨h.1, h.2.symm⟩)))
    have hkk : (k : Int) + kk < 9223372036854775808 := by omega
    go_wp2
    go_ret
    refine ⟨rfl, ?_, ((But.refl (· = g) W).drewN nq).setCell (p := ⟨g, 1, none⟩) (show g = g from rfl) _⟩
    have hh := (HH.out.drewN nq).setAt (k + kk.toNat) (by rw [hN.out]; omega)
    rw [show ((k + kk.toNat : Nat) : Int) = (k : Int) + kk from by omega] at hh
    exact hh
  · have hef : (e == 0) = false := beq_false_of_ne he
    rw [if_neg he, if_neg he]
    show Calls _ _ _ _ (RdPU g L W 0 k (failF none e k))
    go_enter Try.func70, Try.ntmps70
    go_wp2_with fail
    refine (cnone_any g _ H2).mono ?_
    rintro r w1 ⟨rfl, rfl⟩
    go_wp2_with fail
    go_quiet ((go_at_call 69; exact Calls.quiet_of_same ((CN.out A2 (c - k) _ (hd.out.ext ((Ext.refl _).drewN _)) (fun _ => rfl)).mono fun r w' h => ⟨h.1, h.2.symm⟩)))
    have CF := Lib.hid (cFail_any g k L none e k _ (HH.out.drewN nq))
    clear he
    go_wp2_with fail
    refine CF.out.mono ?_
    rintro r w1 ⟨⟨v, rfl⟩, hr, hb⟩
    have HR := Lib.hid (And.intro hr hb)
    clear hr hb CF
    go_wp2_with fail
    go_ret
    exact ⟨rfl, HR.out.1, ((But.refl _ W).drewN nq).trans HR.out.2⟩
theorem cU_main (g k : Nat) (L : List Nat) (f : Option (Int × Int)) (hL : L.length < 1099511627776) (w : World) (h : Rd w g L k f) :
    Calls Try.prog 70 #[.pointer (some ⟨g, 0, none⟩), .func (.func 69) #[] #[]] w (RdPU g L w (ruV L k f) (ruK L k f) (ruF L k f)) := by
  cases f with
  | some x =>
    refine (creadU_old g k L x _ w h).mono ?_
    rintro r w' ⟨rfl, rfl⟩
    unfold ruV ruK ruF RdPU
    exact ⟨by simp, by simpa using h, But.refl _ _⟩
  | none =>
    have hn := numGo_lt (L.drop k) 0 0 (by decide) (by decide)
    have hlen : (L.drop k).length = L.length - k := List.length_drop ..
    have hkl := h.le
    have C := creadU_go g k L ((numGo (L.drop k) 0 0).1 : Int) ((numGo (L.drop k) 0 0).2.1 : Int) (ruE L k) w h (by omega) (by have := hn.2.1; omega) hL
      (Lib.hid fun A c w' hs _ => cnumber_any A (L.length - k) c (L.drop k) w' hs (h.byt.drop k))
    refine C.mono ?_
    rintro r w' ⟨hr1, hr2, hr3⟩
    unfold ruV ruK ruF
    by_cases he : ruE L k = 0
    · rw [if_pos he] at hr1 hr2
      rw [he] at hr2 ⊢
      refine ⟨?_, ?_, hr3⟩
      · rw [hr1]; simp
      · simpa using hr2
    · rw [if_neg he] at hr1 hr2
      refine ⟨?_, ?_, hr3⟩
      · rw [hr1]; simp [he]
      · simpa [he] using hr2
theorem cU_any (g k : Nat) (L : List Nat) (f : Option (Int × Int)) (hL : L.length < 1099511627776) (w : World) (h : Rd w g L k f) :
    Calls Try.prog 53 #[.pointer (some ⟨g, 0, none⟩)] w (RdPU g L w (ruV L k f) (ruK L k f) (ruF L k f)) := by
  have main := Lib.hid (cU_main g k L f hL w h)
  clear h
  go_enter Try.func53, Try.ntmps53
  go_wp2_with fail
  refine main.out.mono ?_
  rintro r w1 ⟨rfl, hr1, hr2⟩
  have H := Lib.hid (show RdPU g L w (ruV L k f) (ruK L k f) (ruF L k f) (.returned (.int .u64 (ruV L k f))) w1 from ⟨rfl, hr1, hr2⟩)
  clear hr1 hr2 main
  go_wp2_with fail
  go_ret
  exact H.out
/-- a write that fits -/
theorem wAdd_fit {lim : Int} {L b : List Nat} (h : (L.length : Int) + b.length ≤ lim) : wAddE lim 0 L b = 0 ∧ wAddL lim 0 L b = L ++ b := by
  have e : wAddE lim 0 L b = 0 := by unfold wAddE; rw [if_pos rfl, if_neg (by omega)]
  exact ⟨e, by unfold wAddL; rw [e, if_pos rfl]⟩
theorem putL_ten {N : Nat} (hN : N < 18446744073709551616) : (putL N).length ≤ 10 := by have := putL_len N 9 (by omega); omega
theorem But.ofBelow {g : Nat} {w w' : World} (h : Below g w w') : But (fun k => g ≤ k) w w' := ⟨h.os, h.tape, h.output, h.size, fun k _ hs => h.block k (by have h2 : ¬ g ≤ k := hs; omega)⟩
/-- the writer at g does not have the block q -/
def Off (w : World) (g o q : Nat) : Prop := g < w.heap.size ∧ q < w.heap.size ∧ ¬ Sg w g o q
theorem Off.ext {w w' : World} {g o q : Nat} (h : Off w g o q) (hx : Ext w w') : Off w' g o q :=
  ⟨by have := h.1; have := hx.size; omega, by have := h.2.1; have := hx.size; omega, fun hs => h.2.2 ((Sg.congr (hx.cells.1 g o h.1)).1 hs)⟩
theorem Off.wf {w w' : World} {g o q : Nat} (h : Off w g o q) (hx : WF g o w w') : Off w' g o q :=
  ⟨by have := h.1; have := hx.but.size; omega, by have := h.2.1; have := hx.but.size; omega, fun hs => h.2.2 (hx.row q h.2.1 hs)⟩
theorem Off.new {w w' : World} {g q : Nat} {lim e : Int} {L : List Nat} (h : Wr w g lim e L) (hq : w.heap.size ≤ q) (hx : Ext w w') (hq2 : q < w'.heap.size) : Off w' g 0 q :=
  ⟨by have := h.lt; have := hx.size; omega, hq2, fun hs => by have := Wr.sg h ((Sg.congr (hx.cells.1 g 0 h.lt)).1 hs); omega⟩
theorem WF.box {w w' : World} {g q : Nat} {lim e : Int} {L : List Nat} (hw : Wr w g lim e L) (hq : Off w g 0 q) (hx : WF g 0 w w') : But (fun k => k ≠ q ∧ g ≤ k) w w' :=
  hx.but.mono fun k _ hs => ⟨fun e => hq.2.2 (e ▸ hs), (Wr.sg hw hs).1⟩
theorem cWU_fit (g : Nat) (lim : Int) (L : List Nat) (n : Int) (h0 : 0 ≤ n) (h1 : n < 18446744073709551616) (hf : (L.length : Int) + 10 ≤ lim) (w : World) (h : Wr w g lim 0 L) :
    Calls Try.prog 48 #[.pointer (some ⟨g, 0, none⟩), .int .u64 n] w fun r w' => r = .returned (.int .i64 0) ∧ Wr w' g lim 0 (L ++ putL n.toNat) ∧ But (fun k => g ≤ k) w w' := by
  obtain ⟨N, rfl⟩ : ∃ N : Nat, n = (N : Int) := ⟨n.toNat, by omega⟩
  rw [show ((N : Int)).toNat = N from by simp]
  have hb := putL_ten (N := N) (by omega)
  obtain ⟨e1, e2⟩ := wAdd_fit (lim := lim) (L := L) (b := putL N) (by omega)
  have hc := cWU_any g lim 0 L N (by omega) w h
  rw [e1, e2] at hc
  refine hc.mono ?_
  rintro r w' ⟨h1, h2, h3⟩
  exact ⟨h1, h2, But.ofBelow h3⟩
theorem cWN_fit (g : Nat) (lim : Int) (L : List Nat) (n : Int) (h0 : 0 ≤ n) (h1 : n < 9223372036854775808) (hf : (L.length : Int) + 10 ≤ lim) (w : World) (h : Wr w g lim 0 L) :
    Calls Try.prog 47 #[.pointer (some ⟨g, 0, none⟩), .int .i64 n] w fun r w' => r = .returned (.int .i64 0) ∧ Wr w' g lim 0 (L ++ putL n.toNat) ∧ But (fun k => g ≤ k) w w' := by
  obtain ⟨N, rfl⟩ : ∃ N : Nat, n = (N : Int) := ⟨n.toNat, by omega⟩
  rw [show ((N : Int)).toNat = N from by simp]
  have hb := putL_ten (N := N) (by omega)
  obtain ⟨e1, e2⟩ := wAdd_fit (lim := lim) (L := L) (b := putL N) (by omega)
  have hc := cWN_pos g lim L N (by omega) w h
  rw [e1, e2] at hc
  refine hc.mono ?_
  rintro r w' ⟨h1, h2, h3⟩
  exact ⟨h1, h2, But.ofBelow h3⟩
theorem cWU_box (g q : Nat) (lim : Int) (L : List Nat) (n : Int) (h0 : 0 ≤ n) (h1 : n < 18446744073709551616) (hf : (L.length : Int) + 10 ≤ lim) (w : World) (h : Wr w g lim 0 L) (hq : Off w g 0 q) :
    Calls Try.prog 48 #[.pointer (some ⟨g, 0, none⟩), .int .u64 n] w fun r w' => r = .returned (.int .i64 0) ∧ Wr w' g lim 0 (L ++ putL n.toNat) ∧ Off w' g 0 q ∧ But (fun k => k ≠ q ∧ g ≤ k) w w' := by
  obtain ⟨N, rfl⟩ : ∃ N : Nat, n = (N : Int) := ⟨n.toNat, by omega⟩
  rw [show ((N : Int)).toNat = N from by simp]
  have hb := putL_ten (N := N) (by omega)
  obtain ⟨e1, e2⟩ := wAdd_fit (lim := lim) (L := L) (b := putL N) (by omega)
  have hc := cWU_anyF g lim 0 L N (by omega) w h
  rw [e1, e2] at hc
  refine hc.mono ?_
  rintro r w' ⟨h1, h2, h3⟩
  exact ⟨h1, h2, hq.wf h3, WF.box h hq h3⟩
theorem cWN_box (g q : Nat) (lim : Int) (L : List Nat) (n : Int) (h0 : 0 ≤ n) (h1 : n < 9223372036854775808) (hf : (L.length : Int) + 10 ≤ lim) (w : World) (h : Wr w g lim 0 L) (hq : Off w g 0 q) :
    Calls Try.prog 47 #[.pointer (some ⟨g, 0, none⟩), .int .i64 n] w fun r w' => r = .returned (.int .i64 0) ∧ Wr w' g lim 0 (L ++ putL n.toNat) ∧ Off w' g 0 q ∧ But (fun k => k ≠ q ∧ g ≤ k) w w' := by
  obtain ⟨N, rfl⟩ : ∃ N : Nat, n = (N : Int) := ⟨n.toNat, by omega⟩
  rw [show ((N : Int)).toNat = N from by simp]
  have hb := putL_ten (N := N) (by omega)
  obtain ⟨e1, e2⟩ := wAdd_fit (lim := lim) (L := L) (b := putL N) (by omega)
  have hc := cWN_posF g lim L N (by omega) w h
  rw [e1, e2] at hc
  refine hc.mono ?_
  rintro r w' ⟨h1, h2, h3⟩
  exact ⟨h1, h2, hq.wf h3, WF.box h hq h3⟩
theorem cNewWriter_ex (lim : Int) (h0 : 0 ≤ lim) (h1 : lim ≤ 1048576) (w : World) :
    Calls Try.prog 46 #[.int .i64 lim] w fun r w' => ∃ g, r = .returned (.tuple #[.pointer (some ⟨g, 0, none⟩), .int .i64 0]) ∧ w.heap.size ≤ g ∧ Wr w' g lim 0 [] ∧ Ext w w' :=
  (cNewWriter_any lim h0 h1 w).mono fun r w' h => ⟨_, h.1, Nat.le_refl _, h.2⟩
theorem cDone_ok (g : Nat) (lim : Int) (L : List Nat) (w : World) (h : Wr w g lim 0 L) : Calls Try.prog 49 #[.pointer (some ⟨g, 0, none⟩)] w (ByErr L 0 w) := by
  have h := cDone_any g lim 0 L w h
  rwa [if_pos rfl] at h
theorem SlB.bel {B G : Nat} {w w' : World} {sz n c : Nat} {A : Option Addr} {xs : List Value} (h : SlB B w sz A n c xs) (hx : Below G w w') (hb : B ≤ G) : SlB B w' sz A n c xs := by
  refine ⟨⟨h.1.1, h.1.2.1, h.1.2.2.1, fun hn => ?_⟩, h.2⟩
  obtain ⟨b, o, e, hlt, hc⟩ := h.1.at_ hn
  have h2 := h.2 hn b o none e
  exact ⟨b, o, e, by have := hx.size; omega, fun j u hu => (hx.cell (p := ⟨b, o + j, none⟩) (show b < G by omega)).trans (hc j u hu)⟩
theorem Ext.bel {a b c : World} {g : Nat} (h : Ext a b) (k : Below g b c) (hg : a.heap.size ≤ g) : Ext a c := Below.trans h (k.mono hg)
end Go.Proofs.Ytlgjdeggbcgbnaa
