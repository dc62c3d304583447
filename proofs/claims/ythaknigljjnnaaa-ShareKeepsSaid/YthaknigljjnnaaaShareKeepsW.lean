/- What is proved: distraintlaw11.ShareKeeps returns true for every two words and every list of acts; nothing that was there is written. Conditions: none. -/
import Derived.Test.YthaknigljjnnaaaShareActsW
import Derived.Test.YthaknigljjnnaaaPick
set_option linter.unusedVariables false
set_option linter.unusedSimpArgs false
namespace Go.Proofs.Ythaknigljjnnaaa
open Go.RowKit

/-- what stands behind the line that makes the act -/
def KeepCut (w wc : World) (pb : Nat) (T S P xv : Int) (q : Value) : Prop :=
  ∃ xb : Nat, q = .pointer (some ⟨xb, 0, none⟩) ∧ wc.cell? ⟨xb, 0, none⟩ = some (.int .i64 P) ∧ wc.cell? ⟨xb, 1, none⟩ = some (.int .u64 xv) ∧ wc.frozen? ⟨xb, 0, none⟩ = false ∧ wc.frozen? ⟨xb, 1, none⟩ = false ∧
    wc.cell? ⟨pb, 0, none⟩ = some (.int .u64 T) ∧ wc.cell? ⟨pb, 1, none⟩ = some (.int .u64 S) ∧ wc.frozen? ⟨pb, 0, none⟩ = false ∧ wc.frozen? ⟨pb, 1, none⟩ = false ∧ Ext w wc ∧ w.heap.size ≤ pb ∧ pb < xb ∧ xb < wc.heap.size
set_option maxRecDepth 100000 in
theorem ShareKeeps_long (t s : Int) (A : Option Addr) (m c : Nat) (xs : List Value) (w : World) (hsl : Sl w 2 A m c xs) (hm : (40 : Int) < m) :
    Calls Try.prog 8 #[.int .u64 t, .int .u64 s, .slice A m c] w fun r w' => r = .returned (.bool true) ∧ Ext w w' := by
  have hs := hsl.small
  clear hsl
  go_enter Try.func8, Try.ntmps8
  go_wp2_with fail
  refine (ShareKnown_any _).mono ?_
  rintro e w1 ⟨rfl, hx1⟩
  go_wp2_with fail
  go_ret
  exact ⟨rfl, (by repeat (first | assumption | exact Ext.refl _ | refine Ext.drew ?_ | refine Ext.drewN ?_ _ | refine Ext.alloc ?_ _ | refine Ext.setCell ?_ (by first | omega | (simp; done) | (simp; omega)) _ | refine Ext.trans ?_ (by assumption)))⟩
set_option maxRecDepth 100000 in
set_option maxHeartbeats 8000000 in
theorem ShareKeeps_short (t s : Int) (ht : Word t) (hs : Word s) (A : Option Addr) (m c : Nat) (l : List (Int × Int)) (w : World) (hsl : Sl w 2 A m c (l.flatMap ac)) (fl : ∀ x ∈ l, Fits .i64 x.1 ∧ Fits .u64 x.2) (hm : (m : Int) ≤ 40) :
    Calls Try.prog 8 #[.int .u64 t, .int .u64 s, .slice A m c] w fun r w' => r = .returned (.bool true) ∧ Ext w w' := by
  have hsm := hsl.small
  have P0 := Lib.hid (of_ok ht hs)
  have C0 := Lib.hid (lof_any t s ht hs)
  have FL := Lib.hid fl
  have HL := Lib.hid (hsl.rlen ac_len (by decide))
  have SL := Lib.hid hsl
  clear ht hs fl hsl
  generalize ofT t = T0 at P0 C0
  generalize ofS t s = S0 at P0 C0
  go_enter Try.func8, Try.ntmps8
  go_wp2_with fail
  refine (ShareKnown_any _).mono ?_
  rintro e w1 ⟨rfl, hx1⟩
  go_wp2_with fail
  refine (C0.out _).mono ?_
  rintro e w2 ⟨rfl, hx2⟩
  have X2 := Lib.hid (hx1.trans hx2)
  have zz := X2.out.size
  clear hx1 hx2 C0
  go_wp2_with fail
  go_loopg [9] (m + 1) (fun g i wx => 1 ≤ g ∧ g ≤ m + 1 ∧ ∃ T S : Int, Hid (PoolOk T S) ∧ i = .int .i64 ((m + 1 - g : Nat) : Int) ∧ wx.cell? ⟨w2.heap.size, 0, none⟩ = some (.int .u64 T) ∧ wx.cell? ⟨w2.heap.size, 1, none⟩ = some (.int .u64 S) ∧ wx.frozen? ⟨w2.heap.size, 0, none⟩ = false ∧ wx.frozen? ⟨w2.heap.size, 1, none⟩ = false ∧ Ext w wx ∧ w2.heap.size < wx.heap.size)
  case atStart => exact ⟨by omega, Nat.le_refl _, T0, S0, P0, by simp, by simp [go_sem], by simp [go_sem], by simp [go_sem], by simp [go_sem], by have X := X2.out; exact (by repeat (first | assumption | exact Ext.refl _ | refine Ext.drew ?_ | refine Ext.drewN ?_ _ | refine Ext.alloc ?_ _ | refine Ext.setCell ?_ (by first | omega | (simp; done) | (simp; omega)) _ | refine Ext.trans ?_ (by assumption))), by simp⟩
  case round =>
    obtain ⟨hg1, hg, T, S, PO, hi, d0, d1, f0, f1, hx, hz0⟩ := hrel
    obtain ⟨k, hk⟩ : ∃ k, k = m + 1 - gk := ⟨_, rfl⟩
    rw [← hk] at hi
    subst hi
    have XW := Lib.hid hx
    clear hx
    by_cases hkm : k = m
    · subst hkm
      clear hk hg hg1
      go_wp2_with fail
      go_ret
      exact ⟨rfl, XW.out⟩
    · have hkn2 : (k : Int) < m := by omega
      have hkl : k < l.length := by have := HL.out; omega
      obtain ⟨b1, o1, rfl, hb1, hc1⟩ := SL.out.rec_ ac_len (show 0 < m from by omega)
      have e0 := XW.out.has (hc1 k _ (List.getElem?_eq_getElem hkl) 0 _ rfl)
      have e1 := XW.out.has (hc1 k _ (List.getElem?_eq_getElem hkl) 1 _ rfl)
      obtain ⟨fx1, fx2⟩ := FL.out _ (List.getElem_mem hkl)
      obtain ⟨x, hxx⟩ : ∃ x, x = l[k] := ⟨_, rfl⟩
      rw [← hxx] at e0 e1 fx1 fx2
      obtain ⟨xa, xv⟩ := x
      simp only at e0 e1 fx1 fx2
      rw [Nat.add_zero] at e0
      rw [← Nat.add_assoc] at e1
      have WX := Lib.hid (show Word xv from fx2.u64)
      have HK := Lib.hid (And.intro hk (And.intro hg hg1))
      have PK := kPick_any xa 3 fx1.i64.1 fx1.i64.2 (by decide) (by decide)
      have p0 := Int.emod_nonneg xa (by decide : (3 : Int) ≠ 0)
      have p1 := Int.emod_lt_of_pos xa (by decide : (0 : Int) < 3)
      generalize xa % 3 = P at PK p0 p1
      replace PK := Lib.hid PK
      clear hc1 hxx fx1 fx2 hkl hk hg hg1 hkm
      have g0 : w2.heap.size < wr.heap.size := hz0
      have g0a : w2.heap.size < wr.heap.size + 1 := by omega
      have gn0 : ¬ w2.heap.size = wr.heap.size := by omega
      have g1 : b1 < wr.heap.size := by omega
      have gn1 : ¬ b1 = wr.heap.size := by omega
      go_wp2_with fail
      go_cut [10] (fun q wc => KeepCut w wc w2.heap.size T S P xv q)
      case first =>
        go_region_held3 (fun w' => w'.cell? ⟨b1, o1 + k * 2, none⟩ = some (.int .i64 xa) ∧ w'.cell? ⟨b1, o1 + k * 2 + 1, none⟩ = some (.int .u64 xv))
          (first | exact ⟨e0, e1⟩ | (simp [go_sem, World.cell?_alloc_past, e0, e1, g1, gn1]; done))
          (first
            | (go_at_call 54
               (with_reducible refine (PK.out _).mono ?_)
               rintro e w3 ⟨rfl, rfl⟩))
        all_goals (go_wp2_with fail; go_meet)
        all_goals (exact ⟨wr.heap.size, rfl, by simp [go_sem, g0, gn0], by simp [go_sem, g0, gn0], by simp [go_sem, g0, gn0], by simp [go_sem, g0, gn0], by simp [go_sem, World.cell?_alloc_past, d0, g0, gn0], by simp [go_sem, World.cell?_alloc_past, d1, g0, gn0], by simp [go_sem, World.cell?_alloc_past, f0, g0, gn0], by simp [go_sem, World.cell?_alloc_past, f1, g0, gn0], by have X := XW.out; exact (by repeat (first | assumption | exact Ext.refl _ | refine Ext.drew ?_ | refine Ext.drewN ?_ _ | refine Ext.alloc ?_ _ | refine Ext.setCell ?_ (by first | omega | (simp; done) | (simp; omega)) _ | refine Ext.trans ?_ (by assumption))), zz, g0, by simp⟩)
      case rest =>
        clear PK e0 e1 d0 d1 f0 f1 XW g0 g0a gn0 g1 gn1 hz0
        obtain ⟨xb, rfl, x0, x1, h0, h1, d0, d1, f0, f1, X, z0, z1, z2⟩ := hcut
        have XC := Lib.hid X
        have n1 : ¬ xb = w2.heap.size := by omega
        have n2 : ¬ w2.heap.size = xb := by omega
        have hT0 := PO.out.t0
        have hTm := PO.out.tm
        have hS0 : 0 ≤ S := by have := PO.out.ts; omega
        have hS2 := PO.out.sm
        have hX0 := WX.out.1
        have hX1 := WX.out.2
        clear X
        have hP : P = 0 ∨ P = 1 ∨ P = 2 := by omega
        rcases hP with rfl | rfl | rfl
        · have x1o := x1
          by_cases he : joiE T S xv = 0
          · obtain ⟨a1, a2, a3, a4, a5, a6, a7⟩ := join_ok PO.out WX.out he
            have CD := ldoes_at 0 T S xv (T + xv) (S + joiN T S xv) (joiN T S xv) 0 PO.out.wt PO.out.ws WX.out a2 a3 rfl he
            generalize joiN T S xv = V at *
            have t1 : T + xv - T = xv := by omega
            have t2 : S + V - S = V := by omega
            have PQ0 := a5
            generalize T + xv = T2 at *
            generalize S + V = S2 at *
            have PQ := Lib.hid PQ0
            have CK := Lib.hid (SCheck_at T2 S2 0 PQ0.wt PQ0.ws PQ0.chk)
            have q2 := PQ0.wt.2
            have q3 := PQ0.t0
            have q4 := PQ0.ws.1
            have q5 := PQ0.ws.2
            replace CD := Lib.hid CD
            have c1 : T ≤ T2 := by omega
            have c2 : S ≤ S2 := by omega
            clear a5 a6 a7 he a2 a3 PQ0
            have r0 : w2.heap.size < wc.heap.size := by omega
            have r0a : w2.heap.size < wc.heap.size + 1 := by omega
            have r0b : w2.heap.size < wc.heap.size + 1 + 1 := by omega
            have r1 : xb < wc.heap.size := by omega
            have r1a : xb < wc.heap.size + 1 := by omega
            have r1b : xb < wc.heap.size + 1 + 1 := by omega
            go_wp2_with fail
            (with_reducible refine (CD.out _).mono ?_)
            rintro e w11 ⟨rfl, hx11⟩
            replace f0 : w11.frozen? ⟨w2.heap.size, 0, none⟩ = false := by have hq := hx11.cells.2 (w2.heap.size) ( 0) (by first | assumption | omega | (simp; omega)); rw [hq]; first | exact f0 | (simp [go_sem, World.cell?_alloc_past, f0, d0, r0, r0a, r0b, r1, r1a, r1b, n1, n2, h0, h1, x1o]; done)
            replace f1 : w11.frozen? ⟨w2.heap.size, 1, none⟩ = false := by have hq := hx11.cells.2 (w2.heap.size) ( 1) (by first | assumption | omega | (simp; omega)); rw [hq]; first | exact f1 | (simp [go_sem, World.cell?_alloc_past, f1, d1, r0, r0a, r0b, r1, r1a, r1b, n1, n2, h0, h1, x1o]; done)
            replace d0 : w11.cell? ⟨w2.heap.size, 0, none⟩ = some (.int .u64 T) := hx11.has (by first | exact d0 | (simp [go_sem]; done) | (simp [go_sem, World.cell?_alloc_past, d0, r0, r0a, r0b, r1, r1a, r1b, n1, n2, h0, h1, x1o]; done))
            replace d1 : w11.cell? ⟨w2.heap.size, 1, none⟩ = some (.int .u64 S) := hx11.has (by first | exact d1 | (simp [go_sem]; done) | (simp [go_sem, World.cell?_alloc_past, d1, r0, r0a, r0b, r1, r1a, r1b, n1, n2, h0, h1, x1o]; done))
            replace x0 : w11.cell? ⟨xb, 0, none⟩ = some (.int .i64 0) := hx11.has (by first | exact x0 | (simp [go_sem]; done) | (simp [go_sem, World.cell?_alloc_past, x0, r0, r0a, r0b, r1, r1a, r1b, n1, n2, h0, h1, x1o]; done))
            replace x1 : w11.cell? ⟨xb, 1, none⟩ = some (.int .u64 xv) := hx11.has (by first | exact x1 | (simp [go_sem]; done) | (simp [go_sem, World.cell?_alloc_past, x1, r0, r0a, r0b, r1, r1a, r1b, n1, n2, h0, h1, x1o]; done))
            have z11 := hx11.size
            try simp at z11
            replace r0 : w2.heap.size < w11.heap.size := by omega
            replace r0a : w2.heap.size < w11.heap.size + 1 := by omega
            replace r0b : w2.heap.size < w11.heap.size + 1 + 1 := by omega
            replace r1 : xb < w11.heap.size := by omega
            replace r1a : xb < w11.heap.size + 1 := by omega
            replace r1b : xb < w11.heap.size + 1 + 1 := by omega
            have X11 : Hid (Ext w w11) := Lib.hid (Ext.trans (by repeat (first | with_reducible exact XC.out | with_reducible refine Ext.drew ?_ | with_reducible refine Ext.drewN ?_ _ | with_reducible refine Ext.alloc ?_ _ | with_reducible refine Ext.setCell ?_ (by first | omega | (simp; done) | (simp; omega)) _)) hx11)
            clear hx11 XC z11
            go_wp2_with fail
            (with_reducible refine (CK.out _).mono ?_)
            rintro e w12 ⟨rfl, hx12⟩
            replace f0 : w12.frozen? ⟨w2.heap.size, 0, none⟩ = false := by have hq := hx12.cells.2 (w2.heap.size) ( 0) (by first | assumption | omega | (simp; omega)); rw [hq]; first | exact f0 | (simp [go_sem, World.cell?_alloc_past, f0, d0, r0, r0a, r0b, r1, r1a, r1b, n1, n2]; done)
            replace f1 : w12.frozen? ⟨w2.heap.size, 1, none⟩ = false := by have hq := hx12.cells.2 (w2.heap.size) ( 1) (by first | assumption | omega | (simp; omega)); rw [hq]; first | exact f1 | (simp [go_sem, World.cell?_alloc_past, f1, d1, r0, r0a, r0b, r1, r1a, r1b, n1, n2]; done)
            replace d0 : w12.cell? ⟨w2.heap.size, 0, none⟩ = some (.int .u64 T) := hx12.has (by first | exact d0 | (simp [go_sem]; done) | (simp [go_sem, World.cell?_alloc_past, d0, r0, r0a, r0b, r1, r1a, r1b, n1, n2]; done))
            replace d1 : w12.cell? ⟨w2.heap.size, 1, none⟩ = some (.int .u64 S) := hx12.has (by first | exact d1 | (simp [go_sem]; done) | (simp [go_sem, World.cell?_alloc_past, d1, r0, r0a, r0b, r1, r1a, r1b, n1, n2]; done))
            replace x0 : w12.cell? ⟨xb, 0, none⟩ = some (.int .i64 0) := hx12.has (by first | exact x0 | (simp [go_sem]; done) | (simp [go_sem, World.cell?_alloc_past, x0, r0, r0a, r0b, r1, r1a, r1b, n1, n2]; done))
            replace x1 : w12.cell? ⟨xb, 1, none⟩ = some (.int .u64 xv) := hx12.has (by first | exact x1 | (simp [go_sem]; done) | (simp [go_sem, World.cell?_alloc_past, x1, r0, r0a, r0b, r1, r1a, r1b, n1, n2]; done))
            have q0 : w12.cell? ⟨w11.heap.size, 0, none⟩ = some (.int .u64 T2) := hx12.has (by first | (simp [go_sem]; done) | (simp [go_sem, World.cell?_alloc_past]; done))
            have q1 : w12.cell? ⟨w11.heap.size, 1, none⟩ = some (.int .u64 S2) := hx12.has (by first | (simp [go_sem]; done) | (simp [go_sem, World.cell?_alloc_past]; done))
            have z12 := hx12.size
            try simp at z12
            replace r0 : w2.heap.size < w12.heap.size := by omega
            replace r0a : w2.heap.size < w12.heap.size + 1 := by omega
            replace r0b : w2.heap.size < w12.heap.size + 1 + 1 := by omega
            replace r1 : xb < w12.heap.size := by omega
            replace r1a : xb < w12.heap.size + 1 := by omega
            replace r1b : xb < w12.heap.size + 1 + 1 := by omega
            replace r2 : w11.heap.size < w12.heap.size := by omega
            replace r2a : w11.heap.size < w12.heap.size + 1 := by omega
            replace r2b : w11.heap.size < w12.heap.size + 1 + 1 := by omega
            have X12 : Hid (Ext w w12) := Lib.hid (Ext.trans (by repeat (first | with_reducible exact X11.out | with_reducible refine Ext.drew ?_ | with_reducible refine Ext.drewN ?_ _ | with_reducible refine Ext.alloc ?_ _ | with_reducible refine Ext.setCell ?_ (by first | omega | (simp; done) | (simp; omega)) _)) hx12)
            clear hx12 X11 z12
            go_wp2_with fail
            go_roundg (gk - 1)
            case measure => have := HK.out; omega
            case rel => exact ⟨by have := HK.out; omega, by have := HK.out; omega, T2, S2, PQ, num_eq (by have := HK.out; omega), by simp [go_sem, r0, d0, d1], by simp [go_sem, r0, d0, d1], by simp [go_sem, r0, f0, f1], by simp [go_sem, r0, f0, f1], by have X := X12.out; exact (by repeat (first | assumption | exact Ext.refl _ | refine Ext.drew ?_ | refine Ext.drewN ?_ _ | refine Ext.alloc ?_ _ | refine Ext.setCell ?_ (by first | omega | (simp; done) | (simp; omega)) _ | refine Ext.trans ?_ (by assumption))), by first | omega | (simp; done) | (simp; omega)⟩
          · have CD := ldoes_at 0 T S xv 0 0 0 (joiE T S xv) PO.out.wt PO.out.ws WX.out (if_neg he) (if_neg he) (if_neg he) rfl
            have hE : (joiE T S xv == 0) = false := beq_false_of_ne he
            generalize joiE T S xv = E at CD hE
            replace CD := Lib.hid CD
            clear he
            have r0 : w2.heap.size < wc.heap.size := by omega
            have r0a : w2.heap.size < wc.heap.size + 1 := by omega
            have r0b : w2.heap.size < wc.heap.size + 1 + 1 := by omega
            go_wp2_with fail
            (with_reducible refine (CD.out _).mono ?_)
            rintro e w11 ⟨rfl, hx11⟩
            replace f0 : w11.frozen? ⟨w2.heap.size, 0, none⟩ = false := by have hq := hx11.cells.2 (w2.heap.size) ( 0) (by first | assumption | omega | (simp; omega)); rw [hq]; first | exact f0 | (simp [go_sem, World.cell?_alloc_past, f0, d0, r0, r0a, r0b, n1, n2, h0, h1, x1o]; done)
            replace f1 : w11.frozen? ⟨w2.heap.size, 1, none⟩ = false := by have hq := hx11.cells.2 (w2.heap.size) ( 1) (by first | assumption | omega | (simp; omega)); rw [hq]; first | exact f1 | (simp [go_sem, World.cell?_alloc_past, f1, d1, r0, r0a, r0b, n1, n2, h0, h1, x1o]; done)
            replace d0 : w11.cell? ⟨w2.heap.size, 0, none⟩ = some (.int .u64 T) := hx11.has (by first | exact d0 | (simp [go_sem]; done) | (simp [go_sem, World.cell?_alloc_past, d0, r0, r0a, r0b, n1, n2, h0, h1, x1o]; done))
            replace d1 : w11.cell? ⟨w2.heap.size, 1, none⟩ = some (.int .u64 S) := hx11.has (by first | exact d1 | (simp [go_sem]; done) | (simp [go_sem, World.cell?_alloc_past, d1, r0, r0a, r0b, n1, n2, h0, h1, x1o]; done))
            have z11 := hx11.size
            try simp at z11
            replace r0 : w2.heap.size < w11.heap.size := by omega
            replace r0a : w2.heap.size < w11.heap.size + 1 := by omega
            replace r0b : w2.heap.size < w11.heap.size + 1 + 1 := by omega
            have X11 : Hid (Ext w w11) := Lib.hid (Ext.trans (by repeat (first | with_reducible exact XC.out | with_reducible refine Ext.drew ?_ | with_reducible refine Ext.drewN ?_ _ | with_reducible refine Ext.alloc ?_ _ | with_reducible refine Ext.setCell ?_ (by first | omega | (simp; done) | (simp; omega)) _)) hx11)
            clear hx11 XC z11
            go_wp2_with fail
            go_roundg (gk - 1)
            case measure => have := HK.out; omega
            case rel => exact ⟨by have := HK.out; omega, by have := HK.out; omega, T, S, PO, num_eq (by have := HK.out; omega), by simp [go_sem, World.cell?_alloc_past, r0, d0, d1], by simp [go_sem, World.cell?_alloc_past, r0, d0, d1], by simp [go_sem, r0, f0, f1], by simp [go_sem, r0, f0, f1], by have X := X11.out; exact (by repeat (first | assumption | exact Ext.refl _ | refine Ext.drew ?_ | refine Ext.drewN ?_ _ | refine Ext.alloc ?_ _ | refine Ext.setCell ?_ (by first | omega | (simp; done) | (simp; omega)) _ | refine Ext.trans ?_ (by assumption))), by first | omega | (simp; done) | (simp; omega)⟩
        · by_cases hS : S = 0
          · have hSp : decide (0 < S) = false := decide_eq_false (by omega)
            have x1o := x1
            have he : leaE T S xv ≠ 0 := fun h => absurd (leave_ok PO.out WX.out h).2.2.2.2.2.2.2.2.1 (by omega)
            have WN := WX
            have CD := ldoes_at 1 T S xv 0 0 0 (leaE T S xv) PO.out.wt PO.out.ws WN.out (if_neg he) (if_neg he) (if_neg he) rfl
            have hE : (leaE T S xv == 0) = false := beq_false_of_ne he
            generalize leaE T S xv = E at CD hE
            replace CD := Lib.hid CD
            clear he
            subst hS
            have r0 : w2.heap.size < wc.heap.size := by omega
            have r0a : w2.heap.size < wc.heap.size + 1 := by omega
            have r0b : w2.heap.size < wc.heap.size + 1 + 1 := by omega
            go_wp2_with fail
            (with_reducible refine (CD.out _).mono ?_)
            rintro e w11 ⟨rfl, hx11⟩
            replace f0 : w11.frozen? ⟨w2.heap.size, 0, none⟩ = false := by have hq := hx11.cells.2 (w2.heap.size) ( 0) (by first | assumption | omega | (simp; omega)); rw [hq]; first | exact f0 | (simp [go_sem, World.cell?_alloc_past, f0, d0, r0, r0a, r0b, n1, n2, h0, h1, x1o]; done)
            replace f1 : w11.frozen? ⟨w2.heap.size, 1, none⟩ = false := by have hq := hx11.cells.2 (w2.heap.size) ( 1) (by first | assumption | omega | (simp; omega)); rw [hq]; first | exact f1 | (simp [go_sem, World.cell?_alloc_past, f1, d1, r0, r0a, r0b, n1, n2, h0, h1, x1o]; done)
            replace d0 : w11.cell? ⟨w2.heap.size, 0, none⟩ = some (.int .u64 T) := hx11.has (by first | exact d0 | (simp [go_sem]; done) | (simp [go_sem, World.cell?_alloc_past, d0, r0, r0a, r0b, n1, n2, h0, h1, x1o]; done))
            replace d1 : w11.cell? ⟨w2.heap.size, 1, none⟩ = some (.int .u64 0) := hx11.has (by first | exact d1 | (simp [go_sem]; done) | (simp [go_sem, World.cell?_alloc_past, d1, r0, r0a, r0b, n1, n2, h0, h1, x1o]; done))
            have z11 := hx11.size
            try simp at z11
            replace r0 : w2.heap.size < w11.heap.size := by omega
            replace r0a : w2.heap.size < w11.heap.size + 1 := by omega
            replace r0b : w2.heap.size < w11.heap.size + 1 + 1 := by omega
            have X11 : Hid (Ext w w11) := Lib.hid (Ext.trans (by repeat (first | with_reducible exact XC.out | with_reducible refine Ext.drew ?_ | with_reducible refine Ext.drewN ?_ _ | with_reducible refine Ext.alloc ?_ _ | with_reducible refine Ext.setCell ?_ (by first | omega | (simp; done) | (simp; omega)) _)) hx11)
            clear hx11 XC z11
            go_wp2_with fail
            go_roundg (gk - 1)
            case measure => have := HK.out; omega
            case rel => exact ⟨by have := HK.out; omega, by have := HK.out; omega, T, 0, PO, num_eq (by have := HK.out; omega), by simp [go_sem, World.cell?_alloc_past, r0, d0, d1], by simp [go_sem, World.cell?_alloc_past, r0, d0, d1], by simp [go_sem, r0, f0, f1], by simp [go_sem, r0, f0, f1], by have X := X11.out; exact (by repeat (first | assumption | exact Ext.refl _ | refine Ext.drew ?_ | refine Ext.drewN ?_ _ | refine Ext.alloc ?_ _ | refine Ext.setCell ?_ (by first | omega | (simp; done) | (simp; omega)) _ | refine Ext.trans ?_ (by assumption))), by first | omega | (simp; done) | (simp; omega)⟩
          · have hSp : 0 < S := by omega
            have r0' := Int.emod_nonneg xv hS
            have r1' := Int.emod_lt_of_pos xv hSp
            obtain ⟨r, hr⟩ : ∃ r, xv % S = r := ⟨_, rfl⟩
            rw [hr] at r0' r1'
            have hSz : (S == 0) = false := beq_false_of_ne hS
            have WN : Hid (Word (1 + r)) := Lib.hid ⟨by omega, by omega⟩
            have hNS : 1 + r ≤ S := by omega
            have x1o := x1
            clear hS
            by_cases he : leaE T S (1 + r) = 0
            · obtain ⟨a1, a2, a3, a4, a5, a6, a7, a8, a9, a10, a11⟩ := leave_ok PO.out WN.out he
              have CD := ldoes_at 1 T S (1 + r) (T - leaN T S (1 + r)) (S - (1 + r)) (leaN T S (1 + r)) 0 PO.out.wt PO.out.ws WN.out a3 a4 rfl he
              generalize leaN T S (1 + r) = V at *
              have t1 : T - (T - V) = V := by omega
              have t2 : S - (S - (1 + r)) = (1 + r) := by omega
              have PQ0 := a8
              have c1 : T - V ≤ T := by omega
              have c2 : S - (1 + r) ≤ S := by omega
              generalize T - V = T2 at *
              generalize S - (1 + r) = S2 at *
              have PQ := Lib.hid PQ0
              have CK := Lib.hid (SCheck_at T2 S2 0 PQ0.wt PQ0.ws PQ0.chk)
              have q2 := PQ0.wt.2
              have q3 := PQ0.t0
              have q4 := PQ0.ws.1
              have q5 := PQ0.ws.2
              replace CD := Lib.hid CD
              clear a8 a10 a11 he a3 a4 PQ0
              have r0 : w2.heap.size < wc.heap.size := by omega
              have r0a : w2.heap.size < wc.heap.size + 1 := by omega
              have r0b : w2.heap.size < wc.heap.size + 1 + 1 := by omega
              have r1 : xb < wc.heap.size := by omega
              have r1a : xb < wc.heap.size + 1 := by omega
              have r1b : xb < wc.heap.size + 1 + 1 := by omega
              go_wp2_with fail
              (with_reducible refine (CD.out _).mono ?_)
              rintro e w11 ⟨rfl, hx11⟩
              replace f0 : w11.frozen? ⟨w2.heap.size, 0, none⟩ = false := by have hq := hx11.cells.2 (w2.heap.size) ( 0) (by first | assumption | omega | (simp; omega)); rw [hq]; first | exact f0 | (simp [go_sem, World.cell?_alloc_past, f0, d0, r0, r0a, r0b, r1, r1a, r1b, n1, n2, h0, h1, x1o]; done)
              replace f1 : w11.frozen? ⟨w2.heap.size, 1, none⟩ = false := by have hq := hx11.cells.2 (w2.heap.size) ( 1) (by first | assumption | omega | (simp; omega)); rw [hq]; first | exact f1 | (simp [go_sem, World.cell?_alloc_past, f1, d1, r0, r0a, r0b, r1, r1a, r1b, n1, n2, h0, h1, x1o]; done)
              replace d0 : w11.cell? ⟨w2.heap.size, 0, none⟩ = some (.int .u64 T) := hx11.has (by first | exact d0 | (simp [go_sem]; done) | (simp [go_sem, World.cell?_alloc_past, d0, r0, r0a, r0b, r1, r1a, r1b, n1, n2, h0, h1, x1o]; done))
              replace d1 : w11.cell? ⟨w2.heap.size, 1, none⟩ = some (.int .u64 S) := hx11.has (by first | exact d1 | (simp [go_sem]; done) | (simp [go_sem, World.cell?_alloc_past, d1, r0, r0a, r0b, r1, r1a, r1b, n1, n2, h0, h1, x1o]; done))
              replace x0 : w11.cell? ⟨xb, 0, none⟩ = some (.int .i64 1) := hx11.has (by first | exact x0 | (simp [go_sem]; done) | (simp [go_sem, World.cell?_alloc_past, x0, r0, r0a, r0b, r1, r1a, r1b, n1, n2, h0, h1, x1o]; done))
              replace x1 : w11.cell? ⟨xb, 1, none⟩ = some (.int .u64 (1 + r)) := hx11.has (by first | exact x1 | (simp [go_sem]; done) | (simp [go_sem, World.cell?_alloc_past, x1, r0, r0a, r0b, r1, r1a, r1b, n1, n2, h0, h1, x1o]; done))
              have z11 := hx11.size
              try simp at z11
              replace r0 : w2.heap.size < w11.heap.size := by omega
              replace r0a : w2.heap.size < w11.heap.size + 1 := by omega
              replace r0b : w2.heap.size < w11.heap.size + 1 + 1 := by omega
              replace r1 : xb < w11.heap.size := by omega
              replace r1a : xb < w11.heap.size + 1 := by omega
              replace r1b : xb < w11.heap.size + 1 + 1 := by omega
              have X11 : Hid (Ext w w11) := Lib.hid (Ext.trans (by repeat (first | with_reducible exact XC.out | with_reducible refine Ext.drew ?_ | with_reducible refine Ext.drewN ?_ _ | with_reducible refine Ext.alloc ?_ _ | with_reducible refine Ext.setCell ?_ (by first | omega | (simp; done) | (simp; omega)) _)) hx11)
              clear hx11 XC z11
              go_wp2_with fail
              (with_reducible refine (CK.out _).mono ?_)
              rintro e w12 ⟨rfl, hx12⟩
              replace f0 : w12.frozen? ⟨w2.heap.size, 0, none⟩ = false := by have hq := hx12.cells.2 (w2.heap.size) ( 0) (by first | assumption | omega | (simp; omega)); rw [hq]; first | exact f0 | (simp [go_sem, World.cell?_alloc_past, f0, d0, r0, r0a, r0b, r1, r1a, r1b, n1, n2]; done)
              replace f1 : w12.frozen? ⟨w2.heap.size, 1, none⟩ = false := by have hq := hx12.cells.2 (w2.heap.size) ( 1) (by first | assumption | omega | (simp; omega)); rw [hq]; first | exact f1 | (simp [go_sem, World.cell?_alloc_past, f1, d1, r0, r0a, r0b, r1, r1a, r1b, n1, n2]; done)
              replace d0 : w12.cell? ⟨w2.heap.size, 0, none⟩ = some (.int .u64 T) := hx12.has (by first | exact d0 | (simp [go_sem]; done) | (simp [go_sem, World.cell?_alloc_past, d0, r0, r0a, r0b, r1, r1a, r1b, n1, n2]; done))
              replace d1 : w12.cell? ⟨w2.heap.size, 1, none⟩ = some (.int .u64 S) := hx12.has (by first | exact d1 | (simp [go_sem]; done) | (simp [go_sem, World.cell?_alloc_past, d1, r0, r0a, r0b, r1, r1a, r1b, n1, n2]; done))
              replace x0 : w12.cell? ⟨xb, 0, none⟩ = some (.int .i64 1) := hx12.has (by first | exact x0 | (simp [go_sem]; done) | (simp [go_sem, World.cell?_alloc_past, x0, r0, r0a, r0b, r1, r1a, r1b, n1, n2]; done))
              replace x1 : w12.cell? ⟨xb, 1, none⟩ = some (.int .u64 (1 + r)) := hx12.has (by first | exact x1 | (simp [go_sem]; done) | (simp [go_sem, World.cell?_alloc_past, x1, r0, r0a, r0b, r1, r1a, r1b, n1, n2]; done))
              have q0 : w12.cell? ⟨w11.heap.size, 0, none⟩ = some (.int .u64 T2) := hx12.has (by first | (simp [go_sem]; done) | (simp [go_sem, World.cell?_alloc_past]; done))
              have q1 : w12.cell? ⟨w11.heap.size, 1, none⟩ = some (.int .u64 S2) := hx12.has (by first | (simp [go_sem]; done) | (simp [go_sem, World.cell?_alloc_past]; done))
              have z12 := hx12.size
              try simp at z12
              replace r0 : w2.heap.size < w12.heap.size := by omega
              replace r0a : w2.heap.size < w12.heap.size + 1 := by omega
              replace r0b : w2.heap.size < w12.heap.size + 1 + 1 := by omega
              replace r1 : xb < w12.heap.size := by omega
              replace r1a : xb < w12.heap.size + 1 := by omega
              replace r1b : xb < w12.heap.size + 1 + 1 := by omega
              replace r2 : w11.heap.size < w12.heap.size := by omega
              replace r2a : w11.heap.size < w12.heap.size + 1 := by omega
              replace r2b : w11.heap.size < w12.heap.size + 1 + 1 := by omega
              have X12 : Hid (Ext w w12) := Lib.hid (Ext.trans (by repeat (first | with_reducible exact X11.out | with_reducible refine Ext.drew ?_ | with_reducible refine Ext.drewN ?_ _ | with_reducible refine Ext.alloc ?_ _ | with_reducible refine Ext.setCell ?_ (by first | omega | (simp; done) | (simp; omega)) _)) hx12)
              clear hx12 X11 z12
              go_wp2_with fail
              go_roundg (gk - 1)
              case measure => have := HK.out; omega
              case rel => exact ⟨by have := HK.out; omega, by have := HK.out; omega, T2, S2, PQ, num_eq (by have := HK.out; omega), by simp [go_sem, r0, d0, d1], by simp [go_sem, r0, d0, d1], by simp [go_sem, r0, f0, f1], by simp [go_sem, r0, f0, f1], by have X := X12.out; exact (by repeat (first | assumption | exact Ext.refl _ | refine Ext.drew ?_ | refine Ext.drewN ?_ _ | refine Ext.alloc ?_ _ | refine Ext.setCell ?_ (by first | omega | (simp; done) | (simp; omega)) _ | refine Ext.trans ?_ (by assumption))), by first | omega | (simp; done) | (simp; omega)⟩
            · have CD := ldoes_at 1 T S (1 + r) 0 0 0 (leaE T S (1 + r)) PO.out.wt PO.out.ws WN.out (if_neg he) (if_neg he) (if_neg he) rfl
              have hE : (leaE T S (1 + r) == 0) = false := beq_false_of_ne he
              generalize leaE T S (1 + r) = E at CD hE
              replace CD := Lib.hid CD
              clear he
              have r0 : w2.heap.size < wc.heap.size := by omega
              have r0a : w2.heap.size < wc.heap.size + 1 := by omega
              have r0b : w2.heap.size < wc.heap.size + 1 + 1 := by omega
              go_wp2_with fail
              (with_reducible refine (CD.out _).mono ?_)
              rintro e w11 ⟨rfl, hx11⟩
              replace f0 : w11.frozen? ⟨w2.heap.size, 0, none⟩ = false := by have hq := hx11.cells.2 (w2.heap.size) ( 0) (by first | assumption | omega | (simp; omega)); rw [hq]; first | exact f0 | (simp [go_sem, World.cell?_alloc_past, f0, d0, r0, r0a, r0b, n1, n2, h0, h1, x1o]; done)
              replace f1 : w11.frozen? ⟨w2.heap.size, 1, none⟩ = false := by have hq := hx11.cells.2 (w2.heap.size) ( 1) (by first | assumption | omega | (simp; omega)); rw [hq]; first | exact f1 | (simp [go_sem, World.cell?_alloc_past, f1, d1, r0, r0a, r0b, n1, n2, h0, h1, x1o]; done)
              replace d0 : w11.cell? ⟨w2.heap.size, 0, none⟩ = some (.int .u64 T) := hx11.has (by first | exact d0 | (simp [go_sem]; done) | (simp [go_sem, World.cell?_alloc_past, d0, r0, r0a, r0b, n1, n2, h0, h1, x1o]; done))
              replace d1 : w11.cell? ⟨w2.heap.size, 1, none⟩ = some (.int .u64 S) := hx11.has (by first | exact d1 | (simp [go_sem]; done) | (simp [go_sem, World.cell?_alloc_past, d1, r0, r0a, r0b, n1, n2, h0, h1, x1o]; done))
              have z11 := hx11.size
              try simp at z11
              replace r0 : w2.heap.size < w11.heap.size := by omega
              replace r0a : w2.heap.size < w11.heap.size + 1 := by omega
              replace r0b : w2.heap.size < w11.heap.size + 1 + 1 := by omega
              have X11 : Hid (Ext w w11) := Lib.hid (Ext.trans (by repeat (first | with_reducible exact XC.out | with_reducible refine Ext.drew ?_ | with_reducible refine Ext.drewN ?_ _ | with_reducible refine Ext.alloc ?_ _ | with_reducible refine Ext.setCell ?_ (by first | omega | (simp; done) | (simp; omega)) _)) hx11)
              clear hx11 XC z11
              go_wp2_with fail
              go_roundg (gk - 1)
              case measure => have := HK.out; omega
              case rel => exact ⟨by have := HK.out; omega, by have := HK.out; omega, T, S, PO, num_eq (by have := HK.out; omega), by simp [go_sem, World.cell?_alloc_past, r0, d0, d1], by simp [go_sem, World.cell?_alloc_past, r0, d0, d1], by simp [go_sem, r0, f0, f1], by simp [go_sem, r0, f0, f1], by have X := X11.out; exact (by repeat (first | assumption | exact Ext.refl _ | refine Ext.drew ?_ | refine Ext.drewN ?_ _ | refine Ext.alloc ?_ _ | refine Ext.setCell ?_ (by first | omega | (simp; done) | (simp; omega)) _ | refine Ext.trans ?_ (by assumption))), by first | omega | (simp; done) | (simp; omega)⟩
        · have r0' := Int.emod_nonneg xv (by decide : (1000000001 : Int) ≠ 0)
          have r1' := Int.emod_lt_of_pos xv (by decide : (0 : Int) < 1000000001)
          obtain ⟨r, hr⟩ : ∃ r, xv % 1000000001 = r := ⟨_, rfl⟩
          rw [hr] at r0' r1'
          have WN : Hid (Word r) := Lib.hid ⟨by omega, by omega⟩
          have x1o := x1
          obtain ⟨he, a1, a2, a3, a4, a5, a6⟩ := cut_ok PO.out r0' (by omega : r ≤ 1000000000)
          have CD := ldoes_at 2 T S r _ _ (cutN T S r) 0 PO.out.wt PO.out.ws WN.out a3 a4 rfl he
          clear a3 a4 a5 he
          generalize cutN T S r = V at *
          by_cases hz : T - V = 0
          · rw [if_pos hz] at CD a6
            rw [hz] at CD a6
            have eV : T = V := by omega
            subst eV
            have PQ := Lib.hid a6
            have CK := Lib.hid (SCheck_at 0 0 0 a6.wt a6.ws a6.chk)
            replace CD := Lib.hid CD
            have hSS : S = 0 ∨ (0 == S) = false := by rcases Int.lt_or_le 0 S with h | h; exact .inr (beq_false_of_ne (by omega)); exact .inl (by omega)
            clear a6 hz
            have r0 : w2.heap.size < wc.heap.size := by omega
            have r0a : w2.heap.size < wc.heap.size + 1 := by omega
            have r0b : w2.heap.size < wc.heap.size + 1 + 1 := by omega
            have r1 : xb < wc.heap.size := by omega
            have r1a : xb < wc.heap.size + 1 := by omega
            have r1b : xb < wc.heap.size + 1 + 1 := by omega
            go_wp2_with fail
            (with_reducible refine (CD.out _).mono ?_)
            rintro e w11 ⟨rfl, hx11⟩
            replace f0 : w11.frozen? ⟨w2.heap.size, 0, none⟩ = false := by have hq := hx11.cells.2 (w2.heap.size) ( 0) (by first | assumption | omega | (simp; omega)); rw [hq]; first | exact f0 | (simp [go_sem, World.cell?_alloc_past, f0, d0, r0, r0a, r0b, r1, r1a, r1b, n1, n2, h0, h1, x1o]; done)
            replace f1 : w11.frozen? ⟨w2.heap.size, 1, none⟩ = false := by have hq := hx11.cells.2 (w2.heap.size) ( 1) (by first | assumption | omega | (simp; omega)); rw [hq]; first | exact f1 | (simp [go_sem, World.cell?_alloc_past, f1, d1, r0, r0a, r0b, r1, r1a, r1b, n1, n2, h0, h1, x1o]; done)
            replace d0 : w11.cell? ⟨w2.heap.size, 0, none⟩ = some (.int .u64 T) := hx11.has (by first | exact d0 | (simp [go_sem]; done) | (simp [go_sem, World.cell?_alloc_past, d0, r0, r0a, r0b, r1, r1a, r1b, n1, n2, h0, h1, x1o]; done))
            replace d1 : w11.cell? ⟨w2.heap.size, 1, none⟩ = some (.int .u64 S) := hx11.has (by first | exact d1 | (simp [go_sem]; done) | (simp [go_sem, World.cell?_alloc_past, d1, r0, r0a, r0b, r1, r1a, r1b, n1, n2, h0, h1, x1o]; done))
            replace x0 : w11.cell? ⟨xb, 0, none⟩ = some (.int .i64 2) := hx11.has (by first | exact x0 | (simp [go_sem]; done) | (simp [go_sem, World.cell?_alloc_past, x0, r0, r0a, r0b, r1, r1a, r1b, n1, n2, h0, h1, x1o]; done))
            replace x1 : w11.cell? ⟨xb, 1, none⟩ = some (.int .u64 r) := hx11.has (by first | exact x1 | (simp [go_sem]; done) | (simp [go_sem, World.cell?_alloc_past, x1, r0, r0a, r0b, r1, r1a, r1b, n1, n2, h0, h1, x1o]; done))
            have z11 := hx11.size
            try simp at z11
            replace r0 : w2.heap.size < w11.heap.size := by omega
            replace r0a : w2.heap.size < w11.heap.size + 1 := by omega
            replace r0b : w2.heap.size < w11.heap.size + 1 + 1 := by omega
            replace r1 : xb < w11.heap.size := by omega
            replace r1a : xb < w11.heap.size + 1 := by omega
            replace r1b : xb < w11.heap.size + 1 + 1 := by omega
            have X11 : Hid (Ext w w11) := Lib.hid (Ext.trans (by repeat (first | with_reducible exact XC.out | with_reducible refine Ext.drew ?_ | with_reducible refine Ext.drewN ?_ _ | with_reducible refine Ext.alloc ?_ _ | with_reducible refine Ext.setCell ?_ (by first | omega | (simp; done) | (simp; omega)) _)) hx11)
            clear hx11 XC z11
            go_wp2_with fail
            (with_reducible refine (CK.out _).mono ?_)
            rintro e w12 ⟨rfl, hx12⟩
            replace f0 : w12.frozen? ⟨w2.heap.size, 0, none⟩ = false := by have hq := hx12.cells.2 (w2.heap.size) ( 0) (by first | assumption | omega | (simp; omega)); rw [hq]; first | exact f0 | (simp [go_sem, World.cell?_alloc_past, f0, d0, r0, r0a, r0b, r1, r1a, r1b, n1, n2]; done)
            replace f1 : w12.frozen? ⟨w2.heap.size, 1, none⟩ = false := by have hq := hx12.cells.2 (w2.heap.size) ( 1) (by first | assumption | omega | (simp; omega)); rw [hq]; first | exact f1 | (simp [go_sem, World.cell?_alloc_past, f1, d1, r0, r0a, r0b, r1, r1a, r1b, n1, n2]; done)
            replace d0 : w12.cell? ⟨w2.heap.size, 0, none⟩ = some (.int .u64 T) := hx12.has (by first | exact d0 | (simp [go_sem]; done) | (simp [go_sem, World.cell?_alloc_past, d0, r0, r0a, r0b, r1, r1a, r1b, n1, n2]; done))
            replace d1 : w12.cell? ⟨w2.heap.size, 1, none⟩ = some (.int .u64 S) := hx12.has (by first | exact d1 | (simp [go_sem]; done) | (simp [go_sem, World.cell?_alloc_past, d1, r0, r0a, r0b, r1, r1a, r1b, n1, n2]; done))
            replace x0 : w12.cell? ⟨xb, 0, none⟩ = some (.int .i64 2) := hx12.has (by first | exact x0 | (simp [go_sem]; done) | (simp [go_sem, World.cell?_alloc_past, x0, r0, r0a, r0b, r1, r1a, r1b, n1, n2]; done))
            replace x1 : w12.cell? ⟨xb, 1, none⟩ = some (.int .u64 r) := hx12.has (by first | exact x1 | (simp [go_sem]; done) | (simp [go_sem, World.cell?_alloc_past, x1, r0, r0a, r0b, r1, r1a, r1b, n1, n2]; done))
            have q0 : w12.cell? ⟨w11.heap.size, 0, none⟩ = some (.int .u64 0) := hx12.has (by first | (simp [go_sem]; done) | (simp [go_sem, World.cell?_alloc_past]; done))
            have q1 : w12.cell? ⟨w11.heap.size, 1, none⟩ = some (.int .u64 0) := hx12.has (by first | (simp [go_sem]; done) | (simp [go_sem, World.cell?_alloc_past]; done))
            have z12 := hx12.size
            try simp at z12
            replace r0 : w2.heap.size < w12.heap.size := by omega
            replace r0a : w2.heap.size < w12.heap.size + 1 := by omega
            replace r0b : w2.heap.size < w12.heap.size + 1 + 1 := by omega
            replace r1 : xb < w12.heap.size := by omega
            replace r1a : xb < w12.heap.size + 1 := by omega
            replace r1b : xb < w12.heap.size + 1 + 1 := by omega
            replace r2 : w11.heap.size < w12.heap.size := by omega
            replace r2a : w11.heap.size < w12.heap.size + 1 := by omega
            replace r2b : w11.heap.size < w12.heap.size + 1 + 1 := by omega
            have X12 : Hid (Ext w w12) := Lib.hid (Ext.trans (by repeat (first | with_reducible exact X11.out | with_reducible refine Ext.drew ?_ | with_reducible refine Ext.drewN ?_ _ | with_reducible refine Ext.alloc ?_ _ | with_reducible refine Ext.setCell ?_ (by first | omega | (simp; done) | (simp; omega)) _)) hx12)
            clear hx12 X11 z12
            rcases hSS with hSS | hSS
            · subst hSS
              go_wp2_with fail
              go_roundg (gk - 1)
              case measure => have := HK.out; omega
              case rel => exact ⟨by have := HK.out; omega, by have := HK.out; omega, 0, 0, PQ, num_eq (by have := HK.out; omega), by simp [go_sem, r0, d0, d1], by simp [go_sem, r0, d0, d1], by simp [go_sem, r0, f0, f1], by simp [go_sem, r0, f0, f1], by have X := X12.out; exact (by repeat (first | assumption | exact Ext.refl _ | refine Ext.drew ?_ | refine Ext.drewN ?_ _ | refine Ext.alloc ?_ _ | refine Ext.setCell ?_ (by first | omega | (simp; done) | (simp; omega)) _ | refine Ext.trans ?_ (by assumption))), by first | omega | (simp; done) | (simp; omega)⟩
            · go_wp2_with fail
              go_roundg (gk - 1)
              case measure => have := HK.out; omega
              case rel => exact ⟨by have := HK.out; omega, by have := HK.out; omega, 0, 0, PQ, num_eq (by have := HK.out; omega), by simp [go_sem, r0, d0, d1], by simp [go_sem, r0, d0, d1], by simp [go_sem, r0, f0, f1], by simp [go_sem, r0, f0, f1], by have X := X12.out; exact (by repeat (first | assumption | exact Ext.refl _ | refine Ext.drew ?_ | refine Ext.drewN ?_ _ | refine Ext.alloc ?_ _ | refine Ext.setCell ?_ (by first | omega | (simp; done) | (simp; omega)) _ | refine Ext.trans ?_ (by assumption))), by first | omega | (simp; done) | (simp; omega)⟩
          · rw [if_neg hz] at CD a6
            have PQ0 := a6
            have t1 : T - (T - V) = V := by omega
            have c1 : T - V ≤ T := by omega
            clear hz a6
            generalize T - V = T2 at *
            have PQ := Lib.hid PQ0
            have CK := Lib.hid (SCheck_at T2 S 0 PQ0.wt PQ0.ws PQ0.chk)
            have q2 := PQ0.wt.2
            have q3 := PQ0.t0
            have q4 := PQ0.ws.1
            have q5 := PQ0.ws.2
            replace CD := Lib.hid CD
            clear PQ0
            have r0 : w2.heap.size < wc.heap.size := by omega
            have r0a : w2.heap.size < wc.heap.size + 1 := by omega
            have r0b : w2.heap.size < wc.heap.size + 1 + 1 := by omega
            have r1 : xb < wc.heap.size := by omega
            have r1a : xb < wc.heap.size + 1 := by omega
            have r1b : xb < wc.heap.size + 1 + 1 := by omega
            go_wp2_with fail
            (with_reducible refine (CD.out _).mono ?_)
            rintro e w11 ⟨rfl, hx11⟩
            replace f0 : w11.frozen? ⟨w2.heap.size, 0, none⟩ = false := by have hq := hx11.cells.2 (w2.heap.size) ( 0) (by first | assumption | omega | (simp; omega)); rw [hq]; first | exact f0 | (simp [go_sem, World.cell?_alloc_past, f0, d0, r0, r0a, r0b, r1, r1a, r1b, n1, n2, h0, h1, x1o]; done)
            replace f1 : w11.frozen? ⟨w2.heap.size, 1, none⟩ = false := by have hq := hx11.cells.2 (w2.heap.size) ( 1) (by first | assumption | omega | (simp; omega)); rw [hq]; first | exact f1 | (simp [go_sem, World.cell?_alloc_past, f1, d1, r0, r0a, r0b, r1, r1a, r1b, n1, n2, h0, h1, x1o]; done)
            replace d0 : w11.cell? ⟨w2.heap.size, 0, none⟩ = some (.int .u64 T) := hx11.has (by first | exact d0 | (simp [go_sem]; done) | (simp [go_sem, World.cell?_alloc_past, d0, r0, r0a, r0b, r1, r1a, r1b, n1, n2, h0, h1, x1o]; done))
            replace d1 : w11.cell? ⟨w2.heap.size, 1, none⟩ = some (.int .u64 S) := hx11.has (by first | exact d1 | (simp [go_sem]; done) | (simp [go_sem, World.cell?_alloc_past, d1, r0, r0a, r0b, r1, r1a, r1b, n1, n2, h0, h1, x1o]; done))
            replace x0 : w11.cell? ⟨xb, 0, none⟩ = some (.int .i64 2) := hx11.has (by first | exact x0 | (simp [go_sem]; done) | (simp [go_sem, World.cell?_alloc_past, x0, r0, r0a, r0b, r1, r1a, r1b, n1, n2, h0, h1, x1o]; done))
            replace x1 : w11.cell? ⟨xb, 1, none⟩ = some (.int .u64 r) := hx11.has (by first | exact x1 | (simp [go_sem]; done) | (simp [go_sem, World.cell?_alloc_past, x1, r0, r0a, r0b, r1, r1a, r1b, n1, n2, h0, h1, x1o]; done))
            have z11 := hx11.size
            try simp at z11
            replace r0 : w2.heap.size < w11.heap.size := by omega
            replace r0a : w2.heap.size < w11.heap.size + 1 := by omega
            replace r0b : w2.heap.size < w11.heap.size + 1 + 1 := by omega
            replace r1 : xb < w11.heap.size := by omega
            replace r1a : xb < w11.heap.size + 1 := by omega
            replace r1b : xb < w11.heap.size + 1 + 1 := by omega
            have X11 : Hid (Ext w w11) := Lib.hid (Ext.trans (by repeat (first | with_reducible exact XC.out | with_reducible refine Ext.drew ?_ | with_reducible refine Ext.drewN ?_ _ | with_reducible refine Ext.alloc ?_ _ | with_reducible refine Ext.setCell ?_ (by first | omega | (simp; done) | (simp; omega)) _)) hx11)
            clear hx11 XC z11
            go_wp2_with fail
            (with_reducible refine (CK.out _).mono ?_)
            rintro e w12 ⟨rfl, hx12⟩
            replace f0 : w12.frozen? ⟨w2.heap.size, 0, none⟩ = false := by have hq := hx12.cells.2 (w2.heap.size) ( 0) (by first | assumption | omega | (simp; omega)); rw [hq]; first | exact f0 | (simp [go_sem, World.cell?_alloc_past, f0, d0, r0, r0a, r0b, r1, r1a, r1b, n1, n2]; done)
            replace f1 : w12.frozen? ⟨w2.heap.size, 1, none⟩ = false := by have hq := hx12.cells.2 (w2.heap.size) ( 1) (by first | assumption | omega | (simp; omega)); rw [hq]; first | exact f1 | (simp [go_sem, World.cell?_alloc_past, f1, d1, r0, r0a, r0b, r1, r1a, r1b, n1, n2]; done)
            replace d0 : w12.cell? ⟨w2.heap.size, 0, none⟩ = some (.int .u64 T) := hx12.has (by first | exact d0 | (simp [go_sem]; done) | (simp [go_sem, World.cell?_alloc_past, d0, r0, r0a, r0b, r1, r1a, r1b, n1, n2]; done))
            replace d1 : w12.cell? ⟨w2.heap.size, 1, none⟩ = some (.int .u64 S) := hx12.has (by first | exact d1 | (simp [go_sem]; done) | (simp [go_sem, World.cell?_alloc_past, d1, r0, r0a, r0b, r1, r1a, r1b, n1, n2]; done))
            replace x0 : w12.cell? ⟨xb, 0, none⟩ = some (.int .i64 2) := hx12.has (by first | exact x0 | (simp [go_sem]; done) | (simp [go_sem, World.cell?_alloc_past, x0, r0, r0a, r0b, r1, r1a, r1b, n1, n2]; done))
            replace x1 : w12.cell? ⟨xb, 1, none⟩ = some (.int .u64 r) := hx12.has (by first | exact x1 | (simp [go_sem]; done) | (simp [go_sem, World.cell?_alloc_past, x1, r0, r0a, r0b, r1, r1a, r1b, n1, n2]; done))
            have q0 : w12.cell? ⟨w11.heap.size, 0, none⟩ = some (.int .u64 T2) := hx12.has (by first | (simp [go_sem]; done) | (simp [go_sem, World.cell?_alloc_past]; done))
            have q1 : w12.cell? ⟨w11.heap.size, 1, none⟩ = some (.int .u64 S) := hx12.has (by first | (simp [go_sem]; done) | (simp [go_sem, World.cell?_alloc_past]; done))
            have z12 := hx12.size
            try simp at z12
            replace r0 : w2.heap.size < w12.heap.size := by omega
            replace r0a : w2.heap.size < w12.heap.size + 1 := by omega
            replace r0b : w2.heap.size < w12.heap.size + 1 + 1 := by omega
            replace r1 : xb < w12.heap.size := by omega
            replace r1a : xb < w12.heap.size + 1 := by omega
            replace r1b : xb < w12.heap.size + 1 + 1 := by omega
            replace r2 : w11.heap.size < w12.heap.size := by omega
            replace r2a : w11.heap.size < w12.heap.size + 1 := by omega
            replace r2b : w11.heap.size < w12.heap.size + 1 + 1 := by omega
            have X12 : Hid (Ext w w12) := Lib.hid (Ext.trans (by repeat (first | with_reducible exact X11.out | with_reducible refine Ext.drew ?_ | with_reducible refine Ext.drewN ?_ _ | with_reducible refine Ext.alloc ?_ _ | with_reducible refine Ext.setCell ?_ (by first | omega | (simp; done) | (simp; omega)) _)) hx12)
            clear hx12 X11 z12
            go_wp2_with fail
            go_roundg (gk - 1)
            case measure => have := HK.out; omega
            case rel => exact ⟨by have := HK.out; omega, by have := HK.out; omega, T2, S, PQ, num_eq (by have := HK.out; omega), by simp [go_sem, r0, d0, d1], by simp [go_sem, r0, d0, d1], by simp [go_sem, r0, f0, f1], by simp [go_sem, r0, f0, f1], by have X := X12.out; exact (by repeat (first | assumption | exact Ext.refl _ | refine Ext.drew ?_ | refine Ext.drewN ?_ _ | refine Ext.alloc ?_ _ | refine Ext.setCell ?_ (by first | omega | (simp; done) | (simp; omega)) _ | refine Ext.trans ?_ (by assumption))), by first | omega | (simp; done) | (simp; omega)⟩
theorem ShareKeeps_any (t : Int) (ft : Fits .u64 t) (s : Int) (fs : Fits .u64 s) (A : Option Addr) (m c : Nat) (l : List (Int × Int)) (w : World) (hsl : Sl w 2 A m c (l.flatMap ac)) (fl : ∀ x ∈ l, Fits .i64 x.1 ∧ Fits .u64 x.2) :
    Calls Try.prog 8 #[.int .u64 t, .int .u64 s, .slice A m c] w fun r w' => r = .returned (.bool true) ∧ Ext w w' := by
  by_cases hm : (40 : Int) < m
  · exact ShareKeeps_long t s A m c _ w hsl hm
  · exact ShareKeeps_short t s ft.u64 fs.u64 A m c l w hsl fl (by omega)
end Go.Proofs.Ythaknigljjnnaaa
