/- What is proved: distraintlaw11.ShareActs returns true for every pool, every word and every list of acts; nothing that was there is written. Conditions: none. -/
import Derived.Test.YthaknigljjnnaaaShareO
import Derived.Test.YthaknigljjnnaaaRec
set_option linter.unusedVariables false
set_option linter.unusedSimpArgs false
namespace Go.Proofs.Ythaknigljjnnaaa
open Go.RowKit

theorem lea_le {t s x : Int} (ht : Word t) (hs : Word s) (hx : Word x) (h : leaE t s x = 0) : x ≤ s ∧ worV t s x ≤ t ∧ 0 ≤ worV t s x := by
  unfold leaE at h
  split at h
  · split at h
    · omega
    · have := worV_le ht hs hx (by omega)
      exact ⟨by omega, this.2, this.1⟩
  · omega
theorem word_doT {k t s n : Int} (ht : Word t) (hs : Word s) (hn : Word n) : Word (doT k t s n) := by
  have w0 : Word 0 := ⟨by decide, by decide⟩
  have h1 : Word (joiT t s n) := by
    unfold joiT; split
    · exact word_add ht hn
    · exact w0
  have h2 : Word (leaT t s n) := by
    unfold leaT; split
    · rename_i h
      have := lea_le ht hs hn h
      exact ⟨by omega, by have := ht.2; omega⟩
    · exact w0
  have h3 : Word (cutT t s n) := by
    unfold cutT; split
    · have := paN_le ht hn
      exact ⟨by omega, by have := ht.2; omega⟩
    · exact w0
  unfold doT
  repeat' split
  all_goals assumption
theorem word_doS {k t s n : Int} (ht : Word t) (hs : Word s) (hn : Word n) : Word (doS k t s n) := by
  have w0 : Word 0 := ⟨by decide, by decide⟩
  have h1 : Word (joiS t s n) := by
    unfold joiS; split
    · exact word_add hs (word_priN ht hs hn)
    · exact w0
  have h2 : Word (leaS t s n) := by
    unfold leaS; split
    · rename_i h
      have := lea_le ht hs hn h
      exact ⟨by omega, by have := hs.2; have := hn.1; omega⟩
    · exact w0
  have h3 : Word (cutS t s n) := by
    unfold cutS
    repeat' split
    all_goals assumption
  unfold doS
  repeat' split
  all_goals assumption
/-- an act's cells -/
def ac (x : Int × Int) : List Value := [.int .i64 x.1, .int .u64 x.2]
theorem ac_len (x : Int × Int) : (ac x).length = 2 := rfl
theorem open_acts {H : Type} {enc : TypeId × Value → H} {w : World} {base : Nat} {spare : Nat → Bool} {held : Bool} {n c : Nat} {A : Option Addr} {d : DataW H} {p : List MemPlace}
    (h : DataW.Trod enc Try.prog w base spare held 59 (.slice A n c) d p) : ∃ l : List (Int × Int), Sl w 2 A n c (l.flatMap ac) ∧ l.length = n ∧ ∀ x ∈ l, Fits .i64 x.1 ∧ Fits .u64 x.2 :=
  open_rec (f := ac) Try.underlying59 (by kernel_rfl) (by decide)
    (fun cs m y h hl => rec2 (k0 := .i64) (k1 := .u64) Try.underlying66 (by kernel_rfl) Try.underlying3 Try.underlying56 h hl) h
set_option maxRecDepth 100000 in
theorem open_pool {H : Type} {enc : TypeId × Value → H} {w : World} {base b0 : Nat} {spare : Nat → Bool} {held : Bool} {r : Reach} {v : Value} {d : DataW H} {p : List MemPlace}
    (hv : Value.okWide Try.prog w r b0 58 v) (h : DataW.Trod enc Try.prog w base spare held 58 v d p) : ∃ t s, v = .agg #[.int .u64 t, .int .u64 s] ∧ Fits .u64 t ∧ Fits .u64 s := by
  obtain ⟨v0, v1, y0, y1, n, rfl, _, _, h0, h1⟩ := Go.Joins.open_agg2 Try.underlying58 (by kernel_rfl) (by kernel_rfl) hv h
  obtain ⟨a, ha, _, wa⟩ := DataW.trod_int Try.underlying56 h0
  obtain ⟨b, hb, _, wb⟩ := DataW.trod_int Try.underlying56 h1
  simp at ha hb
  subst ha; subst hb
  exact ⟨a, b, rfl, wa, wb⟩
theorem ShareActs_long (t s n : Int) (A : Option Addr) (m c : Nat) (xs : List Value) (w : World) (hsl : Sl w 2 A m c xs) (hm : (30 : Int) < m) :
    Calls Try.prog 5 #[.agg #[.int .u64 t, .int .u64 s], .int .u64 n, .slice A m c] w fun r w' => r = .returned (.bool true) ∧ Ext w w' := by
  have hs := hsl.small
  clear hsl
  go_enter Try.func5, Try.ntmps5
  go_wp2_with fail
  refine (awake11_any _).mono ?_
  rintro e w1 ⟨rfl, hx1⟩
  go_wp2_with fail
  go_ret
  exact ⟨rfl, (by repeat (first | assumption | exact Ext.refl _ | refine Ext.drew ?_ | refine Ext.drewN ?_ _ | refine Ext.alloc ?_ _ | refine Ext.setCell ?_ (by first | omega | (simp; done) | (simp; omega)) _ | refine Ext.trans ?_ (by assumption)))⟩
theorem Ext.fresh {w w' : World} {v u : Value} {e : TypeId} {b : Nat} (h : Ext (w.alloc (.cells #[v, u] e)) w') (hb : w.heap.size = b) :
    w'.cell? ⟨b, 0, none⟩ = some v ∧ w'.cell? ⟨b, 1, none⟩ = some u ∧ w'.frozen? ⟨b, 0, none⟩ = false ∧ w'.frozen? ⟨b, 1, none⟩ = false ∧ b < w'.heap.size := by
  subst hb
  have hz := h.size
  simp at hz
  exact ⟨h.has (by simp [go_sem]), h.has (by simp [go_sem]), h.froz (v := v) (by simp [go_sem]) (by simp [go_sem]), h.froz (v := u) (by simp [go_sem]) (by simp [go_sem]), by omega⟩
theorem Ext.freshd {w w' : World} {v u : Value} {e : TypeId} {b : Nat} (h : Ext (w.alloc (.cells #[v, u] e)).drew w') (hb : w.heap.size = b) :
    w'.cell? ⟨b, 0, none⟩ = some v ∧ w'.cell? ⟨b, 1, none⟩ = some u ∧ w'.frozen? ⟨b, 0, none⟩ = false ∧ w'.frozen? ⟨b, 1, none⟩ = false ∧ b < w'.heap.size :=
  Ext.fresh (Ext.trans (Ext.drew (Ext.refl _)) h) hb
/-- what stands behind the program's act -/
def ActsCut (w wc : World) (T S xa xb a b c2 e : Int) (b1 o1 k : Nat) (q v1 v2 : Value) : Prop :=
  ∃ qb : Nat, q = .pointer (some ⟨qb, 0, none⟩) ∧ v1 = .int .u64 c2 ∧ v2 = .int .i64 e ∧ wc.cell? ⟨qb, 0, none⟩ = some (.int .u64 a) ∧ wc.cell? ⟨qb, 1, none⟩ = some (.int .u64 b) ∧
    wc.cell? ⟨w.heap.size, 0, none⟩ = some (.int .u64 T) ∧ wc.cell? ⟨w.heap.size, 1, none⟩ = some (.int .u64 S) ∧ wc.frozen? ⟨w.heap.size, 0, none⟩ = false ∧ wc.frozen? ⟨w.heap.size, 1, none⟩ = false ∧
    wc.cell? ⟨b1, o1 + k * 2, none⟩ = some (.int .i64 xa) ∧ wc.cell? ⟨b1, o1 + k * 2 + 1, none⟩ = some (.int .u64 xb) ∧ Ext w wc ∧ w.heap.size < wc.heap.size ∧ b1 < wc.heap.size ∧ qb < wc.heap.size
/-- .. and behind the document's -/
def ActsCut2 (w wc : World) (T S a b c2 e : Int) (qb : Nat) (q v1 v2 : Value) : Prop :=
  ∃ rb : Nat, q = .pointer (some ⟨rb, 0, none⟩) ∧ v1 = .int .u64 c2 ∧ v2 = .int .i64 e ∧ wc.cell? ⟨rb, 0, none⟩ = some (.int .u64 a) ∧ wc.cell? ⟨rb, 1, none⟩ = some (.int .u64 b) ∧
    wc.cell? ⟨w.heap.size, 0, none⟩ = some (.int .u64 T) ∧ wc.cell? ⟨w.heap.size, 1, none⟩ = some (.int .u64 S) ∧ wc.frozen? ⟨w.heap.size, 0, none⟩ = false ∧ wc.frozen? ⟨w.heap.size, 1, none⟩ = false ∧
    wc.cell? ⟨qb, 0, none⟩ = some (.int .u64 a) ∧ wc.cell? ⟨qb, 1, none⟩ = some (.int .u64 b) ∧ Ext w wc ∧ w.heap.size < wc.heap.size ∧ rb < wc.heap.size ∧ qb < wc.heap.size
set_option maxRecDepth 100000 in
set_option maxHeartbeats 4000000 in
theorem ShareActs_short (t s n : Int) (ht : Word t) (hs : Word s) (hn : Word n) (A : Option Addr) (m c : Nat) (l : List (Int × Int)) (w : World) (hsl : Sl w 2 A m c (l.flatMap ac)) (fl : ∀ x ∈ l, Fits .i64 x.1 ∧ Fits .u64 x.2) (hm : (m : Int) ≤ 30) :
    Calls Try.prog 5 #[.agg #[.int .u64 t, .int .u64 s], .int .u64 n, .slice A m c] w fun r w' => r = .returned (.bool true) ∧ Ext w w' := by
  have hsm := hsl.small
  have HW := Lib.hid (And.intro ht hs)
  have WN := Lib.hid hn
  have FL := Lib.hid fl
  have HL := Lib.hid (hsl.rlen ac_len (by decide))
  have SL := Lib.hid hsl
  clear ht hs hn fl hsl
  go_enter Try.func5, Try.ntmps5
  go_wp2_with fail
  go_loopg [7] (m + 1) (fun g i wx => g ≤ m + 1 ∧ ∃ T S : Int, Hid (Word T ∧ Word S) ∧ i = .int .i64 ((m + 1 - g : Nat) : Int) ∧ wx.cell? ⟨w.heap.size, 0, none⟩ = some (.int .u64 T) ∧ wx.cell? ⟨w.heap.size, 1, none⟩ = some (.int .u64 S) ∧ wx.frozen? ⟨w.heap.size, 0, none⟩ = false ∧ wx.frozen? ⟨w.heap.size, 1, none⟩ = false ∧ Ext w wx ∧ w.heap.size < wx.heap.size)
  case atStart => exact ⟨Nat.le_refl _, t, s, HW, by simp, by simp [go_sem], by simp [go_sem], by simp [go_sem], by simp [go_sem], (by repeat (first | assumption | exact Ext.refl _ | refine Ext.drew ?_ | refine Ext.drewN ?_ _ | refine Ext.alloc ?_ _ | refine Ext.setCell ?_ (by first | omega | (simp; done) | (simp; omega)) _ | refine Ext.trans ?_ (by assumption))), by simp⟩
  case round =>
    obtain ⟨hg, T, S, HTS, hi, d0, d1, f0, f1, hx, hz0⟩ := hrel
    have WT := Lib.hid HTS.out.1
    have WS := Lib.hid HTS.out.2
    obtain ⟨k, hk⟩ : ∃ k, k = m + 1 - gk := ⟨_, rfl⟩
    rw [← hk] at hi
    subst hi
    have XW := Lib.hid hx
    clear HTS hx
    by_cases hz : gk = 0
    · have hkn : ¬ (k : Int) ≤ m := by omega
      clear hz hk hg
      go_wp2_with fail
      refine (awake11_any _).mono ?_
      rintro e w1 ⟨rfl, hx1⟩
      go_wp2_with fail
      go_ret
      exact ⟨rfl, XW.out.trans hx1⟩
    · have hkn : (k : Int) ≤ m := by omega
      by_cases hkm : k = m
      · subst hkm
        clear hz hk hg
        have r0 : w.heap.size < wr.heap.size := by omega
        have r0a : w.heap.size < wr.heap.size + 1 := by omega
        have r0b : w.heap.size < wr.heap.size + 1 + 1 := by omega
        go_wp2_with fail
        (with_reducible refine (SValue_any T S n WT.out WS.out WN.out _).mono ?_)
        rintro e w1 ⟨rfl, hx1⟩
        replace d0 : w1.cell? ⟨w.heap.size, 0, none⟩ = some (.int .u64 T) := hx1.has (by first | exact d0 | (simp [go_sem]; done) | (simp [go_sem, World.cell?_alloc_past, d0, r0, r0a, r0b]; done))
        replace d1 : w1.cell? ⟨w.heap.size, 1, none⟩ = some (.int .u64 S) := hx1.has (by first | exact d1 | (simp [go_sem]; done) | (simp [go_sem, World.cell?_alloc_past, d1, r0, r0a, r0b]; done))
        have z1 := hx1.size
        try simp at z1
        replace r0 : w.heap.size < w1.heap.size := by omega
        replace r0a : w.heap.size < w1.heap.size + 1 := by omega
        replace r0b : w.heap.size < w1.heap.size + 1 + 1 := by omega
        have X1 : Hid (Ext w w1) := Lib.hid (Ext.trans (by repeat (first | with_reducible exact XW.out | with_reducible refine Ext.drew ?_ | with_reducible refine Ext.drewN ?_ _ | with_reducible refine Ext.alloc ?_ _ | with_reducible refine Ext.setCell ?_ (by first | omega | (simp; done) | (simp; omega)) _)) hx1)
        clear hx1 XW z1
        go_wp2_with fail
        (with_reducible refine (pValue_any T S n WT.out WS.out WN.out _).mono ?_)
        rintro e w2 ⟨rfl, hx2⟩
        replace d0 : w2.cell? ⟨w.heap.size, 0, none⟩ = some (.int .u64 T) := hx2.has (by first | exact d0 | (simp [go_sem]; done) | (simp [go_sem, World.cell?_alloc_past, d0, r0, r0a, r0b]; done))
        replace d1 : w2.cell? ⟨w.heap.size, 1, none⟩ = some (.int .u64 S) := hx2.has (by first | exact d1 | (simp [go_sem]; done) | (simp [go_sem, World.cell?_alloc_past, d1, r0, r0a, r0b]; done))
        have z2 := hx2.size
        try simp at z2
        replace r0 : w.heap.size < w2.heap.size := by omega
        replace r0a : w.heap.size < w2.heap.size + 1 := by omega
        replace r0b : w.heap.size < w2.heap.size + 1 + 1 := by omega
        have X2 : Hid (Ext w w2) := Lib.hid (Ext.trans (by repeat (first | with_reducible exact X1.out | with_reducible refine Ext.drew ?_ | with_reducible refine Ext.drewN ?_ _ | with_reducible refine Ext.alloc ?_ _ | with_reducible refine Ext.setCell ?_ (by first | omega | (simp; done) | (simp; omega)) _)) hx2)
        clear hx2 X1 z2
        go_wp2_with fail
        (with_reducible refine (SPrice_any T S n WT.out WS.out WN.out _).mono ?_)
        rintro e w3 ⟨rfl, hx3⟩
        replace d0 : w3.cell? ⟨w.heap.size, 0, none⟩ = some (.int .u64 T) := hx3.has (by first | exact d0 | (simp [go_sem]; done) | (simp [go_sem, World.cell?_alloc_past, d0, r0, r0a, r0b]; done))
        replace d1 : w3.cell? ⟨w.heap.size, 1, none⟩ = some (.int .u64 S) := hx3.has (by first | exact d1 | (simp [go_sem]; done) | (simp [go_sem, World.cell?_alloc_past, d1, r0, r0a, r0b]; done))
        have z3 := hx3.size
        try simp at z3
        replace r0 : w.heap.size < w3.heap.size := by omega
        replace r0a : w.heap.size < w3.heap.size + 1 := by omega
        replace r0b : w.heap.size < w3.heap.size + 1 + 1 := by omega
        have X3 : Hid (Ext w w3) := Lib.hid (Ext.trans (by repeat (first | with_reducible exact X2.out | with_reducible refine Ext.drew ?_ | with_reducible refine Ext.drewN ?_ _ | with_reducible refine Ext.alloc ?_ _ | with_reducible refine Ext.setCell ?_ (by first | omega | (simp; done) | (simp; omega)) _)) hx3)
        clear hx3 X2 z3
        go_wp2_with fail
        (with_reducible refine (pPrice_any T S n WT.out WS.out WN.out _).mono ?_)
        rintro e w4 ⟨rfl, hx4⟩
        replace d0 : w4.cell? ⟨w.heap.size, 0, none⟩ = some (.int .u64 T) := hx4.has (by first | exact d0 | (simp [go_sem]; done) | (simp [go_sem, World.cell?_alloc_past, d0, r0, r0a, r0b]; done))
        replace d1 : w4.cell? ⟨w.heap.size, 1, none⟩ = some (.int .u64 S) := hx4.has (by first | exact d1 | (simp [go_sem]; done) | (simp [go_sem, World.cell?_alloc_past, d1, r0, r0a, r0b]; done))
        have z4 := hx4.size
        try simp at z4
        replace r0 : w.heap.size < w4.heap.size := by omega
        replace r0a : w.heap.size < w4.heap.size + 1 := by omega
        replace r0b : w.heap.size < w4.heap.size + 1 + 1 := by omega
        have X4 : Hid (Ext w w4) := Lib.hid (Ext.trans (by repeat (first | with_reducible exact X3.out | with_reducible refine Ext.drew ?_ | with_reducible refine Ext.drewN ?_ _ | with_reducible refine Ext.alloc ?_ _ | with_reducible refine Ext.setCell ?_ (by first | omega | (simp; done) | (simp; omega)) _)) hx4)
        clear hx4 X3 z4
        go_wp2_with fail
        go_region_held3 (fun w' => w'.cell? ⟨w.heap.size, 0, none⟩ = some (.int .u64 T) ∧ w'.cell? ⟨w.heap.size, 1, none⟩ = some (.int .u64 S))
          (first | exact ⟨d0, d1⟩ | (simp [go_sem, World.cell?_alloc_past]; done) | (simp [go_sem, World.cell?_alloc_past, d0, d1, r0, r0a, r0b]; done))
          (first
            | (have hst := X5
               clear hst
               go_at_call 44
               (with_reducible refine (pCheck_any T S _).mono ?_)
               rintro e w6 ⟨rfl, hx6⟩
               replace d0 : w6.cell? ⟨w.heap.size, 0, none⟩ = some (.int .u64 T) := hx6.has (by first | exact d0 | (simp [go_sem]; done) | (simp [go_sem, World.cell?_alloc_past, d0, r0, r0a, r0b]; done))
               replace d1 : w6.cell? ⟨w.heap.size, 1, none⟩ = some (.int .u64 S) := hx6.has (by first | exact d1 | (simp [go_sem]; done) | (simp [go_sem, World.cell?_alloc_past, d1, r0, r0a, r0b]; done))
               have z6 := hx6.size
               try simp at z6
               replace r0 : w.heap.size < w6.heap.size := by omega
               replace r0a : w.heap.size < w6.heap.size + 1 := by omega
               replace r0b : w.heap.size < w6.heap.size + 1 + 1 := by omega
               have X6 : Hid (Ext w w6) := Lib.hid (Ext.trans (by repeat (first | with_reducible exact X5.out | with_reducible refine Ext.drew ?_ | with_reducible refine Ext.drewN ?_ _ | with_reducible refine Ext.alloc ?_ _ | with_reducible refine Ext.setCell ?_ (by first | omega | (simp; done) | (simp; omega)) _)) hx6)
               clear hx6 X5 z6)
            | (have hst := X4
               clear hst
               go_at_call 43
               (with_reducible refine (SCheck_any T S WT.out WS.out _).mono ?_)
               rintro e w5 ⟨rfl, hx5⟩
               replace d0 : w5.cell? ⟨w.heap.size, 0, none⟩ = some (.int .u64 T) := hx5.has (by first | exact d0 | (simp [go_sem]; done) | (simp [go_sem, World.cell?_alloc_past, d0, r0, r0a, r0b]; done))
               replace d1 : w5.cell? ⟨w.heap.size, 1, none⟩ = some (.int .u64 S) := hx5.has (by first | exact d1 | (simp [go_sem]; done) | (simp [go_sem, World.cell?_alloc_past, d1, r0, r0a, r0b]; done))
               have z5 := hx5.size
               try simp at z5
               replace r0 : w.heap.size < w5.heap.size := by omega
               replace r0a : w.heap.size < w5.heap.size + 1 := by omega
               replace r0b : w.heap.size < w5.heap.size + 1 + 1 := by omega
               have X5 : Hid (Ext w w5) := Lib.hid (Ext.trans (by repeat (first | with_reducible exact X4.out | with_reducible refine Ext.drew ?_ | with_reducible refine Ext.drewN ?_ _ | with_reducible refine Ext.alloc ?_ _ | with_reducible refine Ext.setCell ?_ (by first | omega | (simp; done) | (simp; omega)) _)) hx5)
               clear hx5 X4 z5))
        go_wp2_with fail
        (with_reducible refine (awake11_any _).mono ?_)
        rintro e w7 ⟨rfl, hx7⟩
        replace d0 : w7.cell? ⟨w.heap.size, 0, none⟩ = some (.int .u64 T) := hx7.has (by first | exact d0 | (simp [go_sem]; done) | (simp [go_sem, World.cell?_alloc_past, d0, r0, r0a, r0b]; done))
        replace d1 : w7.cell? ⟨w.heap.size, 1, none⟩ = some (.int .u64 S) := hx7.has (by first | exact d1 | (simp [go_sem]; done) | (simp [go_sem, World.cell?_alloc_past, d1, r0, r0a, r0b]; done))
        have z7 := hx7.size
        try simp at z7
        replace r0 : w.heap.size < w7.heap.size := by omega
        replace r0a : w.heap.size < w7.heap.size + 1 := by omega
        replace r0b : w.heap.size < w7.heap.size + 1 + 1 := by omega
        have X7 : Hid (Ext w w7) := Lib.hid (Ext.trans (by repeat (first | with_reducible exact X6.out | with_reducible refine Ext.drew ?_ | with_reducible refine Ext.drewN ?_ _ | with_reducible refine Ext.alloc ?_ _ | with_reducible refine Ext.setCell ?_ (by first | omega | (simp; done) | (simp; omega)) _)) hx7)
        clear hx7 X6 z7
        go_wp2_with fail
        go_ret
        exact ⟨rfl, X7.out⟩
      · have hkn2 : (k : Int) < m := by omega
        have hne : ((k : Int) == m) = false := by simpa using (by omega : ¬ (k : Int) = m)
        have hkl : k < l.length := by have := HL.out; omega
        obtain ⟨b1, o1, rfl, hb1, hc1⟩ := (SL.out.ext XW.out).rec_ ac_len (show 0 < m from by omega)
        have e0 := hc1 k _ (List.getElem?_eq_getElem hkl) 0 _ rfl
        have e1 := hc1 k _ (List.getElem?_eq_getElem hkl) 1 _ rfl
        obtain ⟨fx1, fx2⟩ := FL.out _ (List.getElem_mem hkl)
        obtain ⟨x, hxx⟩ : ∃ x, x = l[k] := ⟨_, rfl⟩
        rw [← hxx] at e0 e1 fx1 fx2
        obtain ⟨xa, xb⟩ := x
        simp only at e0 e1 fx1 fx2
        rw [Nat.add_zero] at e0
        rw [← Nat.add_assoc] at e1
        have WX := Lib.hid (show Word xb from fx2.u64)
        have HK := Lib.hid (And.intro hk (And.intro hg hz))
        clear hc1 hxx fx1 fx2 hkl hk hg hz hkm
        have DW := Lib.hid (And.intro (word_doT (k := xa) WT.out WS.out WX.out) (word_doS (k := xa) WT.out WS.out WX.out))
        have CD := ldoes_any xa T S xb WT.out WS.out WX.out
        have CS := lshould_any xa T S xb WT.out WS.out WX.out
        generalize doT xa T S xb = a at DW CD CS
        generalize doS xa T S xb = b at DW CD CS
        generalize doN xa T S xb = c2 at CD CS
        generalize doE xa T S xb = e at CD CS
        replace CD := Lib.hid CD
        replace CS := Lib.hid CS
        have hb1' : b1 < wr.heap.size := hb1
        have r0 : w.heap.size < wr.heap.size := by omega
        have r0a : w.heap.size < wr.heap.size + 1 := by omega
        have r0b : w.heap.size < wr.heap.size + 1 + 1 := by omega
        have r1 : b1 < wr.heap.size := by omega
        have r1a : b1 < wr.heap.size + 1 := by omega
        have r1b : b1 < wr.heap.size + 1 + 1 := by omega
        go_wp2_with fail
        (with_reducible refine (SValue_any T S n WT.out WS.out WN.out _).mono ?_)
        rintro e w1 ⟨rfl, hx1⟩
        replace f0 : w1.frozen? ⟨w.heap.size, 0, none⟩ = false := by have hq := hx1.cells.2 (w.heap.size) ( 0) (by first | assumption | omega | (simp; omega)); rw [hq]; first | exact f0 | (simp [go_sem, World.cell?_alloc_past, f0, d0, r0, r0a, r0b, r1, r1a, r1b]; done)
        replace f1 : w1.frozen? ⟨w.heap.size, 1, none⟩ = false := by have hq := hx1.cells.2 (w.heap.size) ( 1) (by first | assumption | omega | (simp; omega)); rw [hq]; first | exact f1 | (simp [go_sem, World.cell?_alloc_past, f1, d1, r0, r0a, r0b, r1, r1a, r1b]; done)
        replace d0 : w1.cell? ⟨w.heap.size, 0, none⟩ = some (.int .u64 T) := hx1.has (by first | exact d0 | (simp [go_sem]; done) | (simp [go_sem, World.cell?_alloc_past, d0, r0, r0a, r0b, r1, r1a, r1b]; done))
        replace d1 : w1.cell? ⟨w.heap.size, 1, none⟩ = some (.int .u64 S) := hx1.has (by first | exact d1 | (simp [go_sem]; done) | (simp [go_sem, World.cell?_alloc_past, d1, r0, r0a, r0b, r1, r1a, r1b]; done))
        replace e0 : w1.cell? ⟨b1, o1 + k * 2, none⟩ = some (.int .i64 xa) := hx1.has (by first | exact e0 | (simp [go_sem]; done) | (simp [go_sem, World.cell?_alloc_past, e0, r0, r0a, r0b, r1, r1a, r1b]; done))
        replace e1 : w1.cell? ⟨b1, o1 + k * 2 + 1, none⟩ = some (.int .u64 xb) := hx1.has (by first | exact e1 | (simp [go_sem]; done) | (simp [go_sem, World.cell?_alloc_past, e1, r0, r0a, r0b, r1, r1a, r1b]; done))
        have z1 := hx1.size
        try simp at z1
        replace r0 : w.heap.size < w1.heap.size := by omega
        replace r0a : w.heap.size < w1.heap.size + 1 := by omega
        replace r0b : w.heap.size < w1.heap.size + 1 + 1 := by omega
        replace r1 : b1 < w1.heap.size := by omega
        replace r1a : b1 < w1.heap.size + 1 := by omega
        replace r1b : b1 < w1.heap.size + 1 + 1 := by omega
        have X1 : Hid (Ext w w1) := Lib.hid (Ext.trans (by repeat (first | with_reducible exact XW.out | with_reducible refine Ext.drew ?_ | with_reducible refine Ext.drewN ?_ _ | with_reducible refine Ext.alloc ?_ _ | with_reducible refine Ext.setCell ?_ (by first | omega | (simp; done) | (simp; omega)) _)) hx1)
        clear hx1 XW z1
        go_wp2_with fail
        (with_reducible refine (pValue_any T S n WT.out WS.out WN.out _).mono ?_)
        rintro e w2 ⟨rfl, hx2⟩
        replace f0 : w2.frozen? ⟨w.heap.size, 0, none⟩ = false := by have hq := hx2.cells.2 (w.heap.size) ( 0) (by first | assumption | omega | (simp; omega)); rw [hq]; first | exact f0 | (simp [go_sem, World.cell?_alloc_past, f0, d0, r0, r0a, r0b, r1, r1a, r1b]; done)
        replace f1 : w2.frozen? ⟨w.heap.size, 1, none⟩ = false := by have hq := hx2.cells.2 (w.heap.size) ( 1) (by first | assumption | omega | (simp; omega)); rw [hq]; first | exact f1 | (simp [go_sem, World.cell?_alloc_past, f1, d1, r0, r0a, r0b, r1, r1a, r1b]; done)
        replace d0 : w2.cell? ⟨w.heap.size, 0, none⟩ = some (.int .u64 T) := hx2.has (by first | exact d0 | (simp [go_sem]; done) | (simp [go_sem, World.cell?_alloc_past, d0, r0, r0a, r0b, r1, r1a, r1b]; done))
        replace d1 : w2.cell? ⟨w.heap.size, 1, none⟩ = some (.int .u64 S) := hx2.has (by first | exact d1 | (simp [go_sem]; done) | (simp [go_sem, World.cell?_alloc_past, d1, r0, r0a, r0b, r1, r1a, r1b]; done))
        replace e0 : w2.cell? ⟨b1, o1 + k * 2, none⟩ = some (.int .i64 xa) := hx2.has (by first | exact e0 | (simp [go_sem]; done) | (simp [go_sem, World.cell?_alloc_past, e0, r0, r0a, r0b, r1, r1a, r1b]; done))
        replace e1 : w2.cell? ⟨b1, o1 + k * 2 + 1, none⟩ = some (.int .u64 xb) := hx2.has (by first | exact e1 | (simp [go_sem]; done) | (simp [go_sem, World.cell?_alloc_past, e1, r0, r0a, r0b, r1, r1a, r1b]; done))
        have z2 := hx2.size
        try simp at z2
        replace r0 : w.heap.size < w2.heap.size := by omega
        replace r0a : w.heap.size < w2.heap.size + 1 := by omega
        replace r0b : w.heap.size < w2.heap.size + 1 + 1 := by omega
        replace r1 : b1 < w2.heap.size := by omega
        replace r1a : b1 < w2.heap.size + 1 := by omega
        replace r1b : b1 < w2.heap.size + 1 + 1 := by omega
        have X2 : Hid (Ext w w2) := Lib.hid (Ext.trans (by repeat (first | with_reducible exact X1.out | with_reducible refine Ext.drew ?_ | with_reducible refine Ext.drewN ?_ _ | with_reducible refine Ext.alloc ?_ _ | with_reducible refine Ext.setCell ?_ (by first | omega | (simp; done) | (simp; omega)) _)) hx2)
        clear hx2 X1 z2
        go_wp2_with fail
        (with_reducible refine (SPrice_any T S n WT.out WS.out WN.out _).mono ?_)
        rintro e w3 ⟨rfl, hx3⟩
        replace f0 : w3.frozen? ⟨w.heap.size, 0, none⟩ = false := by have hq := hx3.cells.2 (w.heap.size) ( 0) (by first | assumption | omega | (simp; omega)); rw [hq]; first | exact f0 | (simp [go_sem, World.cell?_alloc_past, f0, d0, r0, r0a, r0b, r1, r1a, r1b]; done)
        replace f1 : w3.frozen? ⟨w.heap.size, 1, none⟩ = false := by have hq := hx3.cells.2 (w.heap.size) ( 1) (by first | assumption | omega | (simp; omega)); rw [hq]; first | exact f1 | (simp [go_sem, World.cell?_alloc_past, f1, d1, r0, r0a, r0b, r1, r1a, r1b]; done)
        replace d0 : w3.cell? ⟨w.heap.size, 0, none⟩ = some (.int .u64 T) := hx3.has (by first | exact d0 | (simp [go_sem]; done) | (simp [go_sem, World.cell?_alloc_past, d0, r0, r0a, r0b, r1, r1a, r1b]; done))
        replace d1 : w3.cell? ⟨w.heap.size, 1, none⟩ = some (.int .u64 S) := hx3.has (by first | exact d1 | (simp [go_sem]; done) | (simp [go_sem, World.cell?_alloc_past, d1, r0, r0a, r0b, r1, r1a, r1b]; done))
        replace e0 : w3.cell? ⟨b1, o1 + k * 2, none⟩ = some (.int .i64 xa) := hx3.has (by first | exact e0 | (simp [go_sem]; done) | (simp [go_sem, World.cell?_alloc_past, e0, r0, r0a, r0b, r1, r1a, r1b]; done))
        replace e1 : w3.cell? ⟨b1, o1 + k * 2 + 1, none⟩ = some (.int .u64 xb) := hx3.has (by first | exact e1 | (simp [go_sem]; done) | (simp [go_sem, World.cell?_alloc_past, e1, r0, r0a, r0b, r1, r1a, r1b]; done))
        have z3 := hx3.size
        try simp at z3
        replace r0 : w.heap.size < w3.heap.size := by omega
        replace r0a : w.heap.size < w3.heap.size + 1 := by omega
        replace r0b : w.heap.size < w3.heap.size + 1 + 1 := by omega
        replace r1 : b1 < w3.heap.size := by omega
        replace r1a : b1 < w3.heap.size + 1 := by omega
        replace r1b : b1 < w3.heap.size + 1 + 1 := by omega
        have X3 : Hid (Ext w w3) := Lib.hid (Ext.trans (by repeat (first | with_reducible exact X2.out | with_reducible refine Ext.drew ?_ | with_reducible refine Ext.drewN ?_ _ | with_reducible refine Ext.alloc ?_ _ | with_reducible refine Ext.setCell ?_ (by first | omega | (simp; done) | (simp; omega)) _)) hx3)
        clear hx3 X2 z3
        go_wp2_with fail
        (with_reducible refine (pPrice_any T S n WT.out WS.out WN.out _).mono ?_)
        rintro e w4 ⟨rfl, hx4⟩
        replace f0 : w4.frozen? ⟨w.heap.size, 0, none⟩ = false := by have hq := hx4.cells.2 (w.heap.size) ( 0) (by first | assumption | omega | (simp; omega)); rw [hq]; first | exact f0 | (simp [go_sem, World.cell?_alloc_past, f0, d0, r0, r0a, r0b, r1, r1a, r1b]; done)
        replace f1 : w4.frozen? ⟨w.heap.size, 1, none⟩ = false := by have hq := hx4.cells.2 (w.heap.size) ( 1) (by first | assumption | omega | (simp; omega)); rw [hq]; first | exact f1 | (simp [go_sem, World.cell?_alloc_past, f1, d1, r0, r0a, r0b, r1, r1a, r1b]; done)
        replace d0 : w4.cell? ⟨w.heap.size, 0, none⟩ = some (.int .u64 T) := hx4.has (by first | exact d0 | (simp [go_sem]; done) | (simp [go_sem, World.cell?_alloc_past, d0, r0, r0a, r0b, r1, r1a, r1b]; done))
        replace d1 : w4.cell? ⟨w.heap.size, 1, none⟩ = some (.int .u64 S) := hx4.has (by first | exact d1 | (simp [go_sem]; done) | (simp [go_sem, World.cell?_alloc_past, d1, r0, r0a, r0b, r1, r1a, r1b]; done))
        replace e0 : w4.cell? ⟨b1, o1 + k * 2, none⟩ = some (.int .i64 xa) := hx4.has (by first | exact e0 | (simp [go_sem]; done) | (simp [go_sem, World.cell?_alloc_past, e0, r0, r0a, r0b, r1, r1a, r1b]; done))
        replace e1 : w4.cell? ⟨b1, o1 + k * 2 + 1, none⟩ = some (.int .u64 xb) := hx4.has (by first | exact e1 | (simp [go_sem]; done) | (simp [go_sem, World.cell?_alloc_past, e1, r0, r0a, r0b, r1, r1a, r1b]; done))
        have z4 := hx4.size
        try simp at z4
        replace r0 : w.heap.size < w4.heap.size := by omega
        replace r0a : w.heap.size < w4.heap.size + 1 := by omega
        replace r0b : w.heap.size < w4.heap.size + 1 + 1 := by omega
        replace r1 : b1 < w4.heap.size := by omega
        replace r1a : b1 < w4.heap.size + 1 := by omega
        replace r1b : b1 < w4.heap.size + 1 + 1 := by omega
        have X4 : Hid (Ext w w4) := Lib.hid (Ext.trans (by repeat (first | with_reducible exact X3.out | with_reducible refine Ext.drew ?_ | with_reducible refine Ext.drewN ?_ _ | with_reducible refine Ext.alloc ?_ _ | with_reducible refine Ext.setCell ?_ (by first | omega | (simp; done) | (simp; omega)) _)) hx4)
        clear hx4 X3 z4
        go_wp2_with fail
        go_region_held3 (fun w' => w'.cell? ⟨w.heap.size, 0, none⟩ = some (.int .u64 T) ∧ w'.cell? ⟨w.heap.size, 1, none⟩ = some (.int .u64 S) ∧ w'.cell? ⟨b1, o1 + k * 2, none⟩ = some (.int .i64 xa) ∧ w'.cell? ⟨b1, o1 + k * 2 + 1, none⟩ = some (.int .u64 xb))
          (first | exact ⟨d0, d1, e0, e1⟩ | (simp [go_sem, World.cell?_alloc_past]; done) | (simp [go_sem, World.cell?_alloc_past, d0, d1, e0, e1, r0, r0a, r0b, r1, r1a, r1b]; done))
          (first
            | (have hst := X5
               clear hst
               go_at_call 44
               (with_reducible refine (pCheck_any T S _).mono ?_)
               rintro e w6 ⟨rfl, hx6⟩
               replace f0 : w6.frozen? ⟨w.heap.size, 0, none⟩ = false := by have hq := hx6.cells.2 (w.heap.size) ( 0) (by first | assumption | omega | (simp; omega)); rw [hq]; first | exact f0 | (simp [go_sem, World.cell?_alloc_past, f0, d0, r0, r0a, r0b, r1, r1a, r1b]; done)
               replace f1 : w6.frozen? ⟨w.heap.size, 1, none⟩ = false := by have hq := hx6.cells.2 (w.heap.size) ( 1) (by first | assumption | omega | (simp; omega)); rw [hq]; first | exact f1 | (simp [go_sem, World.cell?_alloc_past, f1, d1, r0, r0a, r0b, r1, r1a, r1b]; done)
               replace d0 : w6.cell? ⟨w.heap.size, 0, none⟩ = some (.int .u64 T) := hx6.has (by first | exact d0 | (simp [go_sem]; done) | (simp [go_sem, World.cell?_alloc_past, d0, r0, r0a, r0b, r1, r1a, r1b]; done))
               replace d1 : w6.cell? ⟨w.heap.size, 1, none⟩ = some (.int .u64 S) := hx6.has (by first | exact d1 | (simp [go_sem]; done) | (simp [go_sem, World.cell?_alloc_past, d1, r0, r0a, r0b, r1, r1a, r1b]; done))
               replace e0 : w6.cell? ⟨b1, o1 + k * 2, none⟩ = some (.int .i64 xa) := hx6.has (by first | exact e0 | (simp [go_sem]; done) | (simp [go_sem, World.cell?_alloc_past, e0, r0, r0a, r0b, r1, r1a, r1b]; done))
               replace e1 : w6.cell? ⟨b1, o1 + k * 2 + 1, none⟩ = some (.int .u64 xb) := hx6.has (by first | exact e1 | (simp [go_sem]; done) | (simp [go_sem, World.cell?_alloc_past, e1, r0, r0a, r0b, r1, r1a, r1b]; done))
               have z6 := hx6.size
               try simp at z6
               replace r0 : w.heap.size < w6.heap.size := by omega
               replace r0a : w.heap.size < w6.heap.size + 1 := by omega
               replace r0b : w.heap.size < w6.heap.size + 1 + 1 := by omega
               replace r1 : b1 < w6.heap.size := by omega
               replace r1a : b1 < w6.heap.size + 1 := by omega
               replace r1b : b1 < w6.heap.size + 1 + 1 := by omega
               have X6 : Hid (Ext w w6) := Lib.hid (Ext.trans (by repeat (first | with_reducible exact X5.out | with_reducible refine Ext.drew ?_ | with_reducible refine Ext.drewN ?_ _ | with_reducible refine Ext.alloc ?_ _ | with_reducible refine Ext.setCell ?_ (by first | omega | (simp; done) | (simp; omega)) _)) hx6)
               clear hx6 X5 z6)
            | (have hst := X4
               clear hst
               go_at_call 43
               (with_reducible refine (SCheck_any T S WT.out WS.out _).mono ?_)
               rintro e w5 ⟨rfl, hx5⟩
               replace f0 : w5.frozen? ⟨w.heap.size, 0, none⟩ = false := by have hq := hx5.cells.2 (w.heap.size) ( 0) (by first | assumption | omega | (simp; omega)); rw [hq]; first | exact f0 | (simp [go_sem, World.cell?_alloc_past, f0, d0, r0, r0a, r0b, r1, r1a, r1b]; done)
               replace f1 : w5.frozen? ⟨w.heap.size, 1, none⟩ = false := by have hq := hx5.cells.2 (w.heap.size) ( 1) (by first | assumption | omega | (simp; omega)); rw [hq]; first | exact f1 | (simp [go_sem, World.cell?_alloc_past, f1, d1, r0, r0a, r0b, r1, r1a, r1b]; done)
               replace d0 : w5.cell? ⟨w.heap.size, 0, none⟩ = some (.int .u64 T) := hx5.has (by first | exact d0 | (simp [go_sem]; done) | (simp [go_sem, World.cell?_alloc_past, d0, r0, r0a, r0b, r1, r1a, r1b]; done))
               replace d1 : w5.cell? ⟨w.heap.size, 1, none⟩ = some (.int .u64 S) := hx5.has (by first | exact d1 | (simp [go_sem]; done) | (simp [go_sem, World.cell?_alloc_past, d1, r0, r0a, r0b, r1, r1a, r1b]; done))
               replace e0 : w5.cell? ⟨b1, o1 + k * 2, none⟩ = some (.int .i64 xa) := hx5.has (by first | exact e0 | (simp [go_sem]; done) | (simp [go_sem, World.cell?_alloc_past, e0, r0, r0a, r0b, r1, r1a, r1b]; done))
               replace e1 : w5.cell? ⟨b1, o1 + k * 2 + 1, none⟩ = some (.int .u64 xb) := hx5.has (by first | exact e1 | (simp [go_sem]; done) | (simp [go_sem, World.cell?_alloc_past, e1, r0, r0a, r0b, r1, r1a, r1b]; done))
               have z5 := hx5.size
               try simp at z5
               replace r0 : w.heap.size < w5.heap.size := by omega
               replace r0a : w.heap.size < w5.heap.size + 1 := by omega
               replace r0b : w.heap.size < w5.heap.size + 1 + 1 := by omega
               replace r1 : b1 < w5.heap.size := by omega
               replace r1a : b1 < w5.heap.size + 1 := by omega
               replace r1b : b1 < w5.heap.size + 1 + 1 := by omega
               have X5 : Hid (Ext w w5) := Lib.hid (Ext.trans (by repeat (first | with_reducible exact X4.out | with_reducible refine Ext.drew ?_ | with_reducible refine Ext.drewN ?_ _ | with_reducible refine Ext.alloc ?_ _ | with_reducible refine Ext.setCell ?_ (by first | omega | (simp; done) | (simp; omega)) _)) hx5)
               clear hx5 X4 z5))
        go_wp2_with fail
        go_cut [16, 8, 9] (fun q v1 v2 wc => ActsCut w wc T S xa xb a b c2 e b1 o1 k q v1 v2)
        case first =>
          have g0 : w.heap.size < w6.heap.size := r0
          have gn0 : ¬ w.heap.size = w6.heap.size := by omega
          have g1 : b1 < w6.heap.size := r1
          have gn1 : ¬ b1 = w6.heap.size := by omega
          go_region_held3 (fun w' => w'.cell? ⟨w.heap.size, 0, none⟩ = some (.int .u64 T) ∧ w'.cell? ⟨w.heap.size, 1, none⟩ = some (.int .u64 S) ∧ w'.cell? ⟨b1, o1 + k * 2, none⟩ = some (.int .i64 xa) ∧ w'.cell? ⟨b1, o1 + k * 2 + 1, none⟩ = some (.int .u64 xb))
            (first | exact ⟨d0, d1, e0, e1⟩ | (simp [go_sem, World.cell?_alloc_past]; done) | (simp [go_sem, World.cell?_alloc_past, d0, d1, e0, e1, r0, r0a, r0b, r1, r1a, r1b, g0, gn0, g1, gn1]; done))
            (first
              | (have hst := X6
                 clear hst
                 go_at_call 45
                 (with_reducible refine (CD.out _).mono ?_)
                 rintro e w7 ⟨rfl, hx7⟩
                 replace f0 : w7.frozen? ⟨w.heap.size, 0, none⟩ = false := by have hq := hx7.cells.2 (w.heap.size) ( 0) (by first | assumption | omega | (simp; omega)); rw [hq]; first | exact f0 | (simp [go_sem, World.cell?_alloc_past, f0, d0, r0, r0a, r0b, r1, r1a, r1b]; done)
                 replace f1 : w7.frozen? ⟨w.heap.size, 1, none⟩ = false := by have hq := hx7.cells.2 (w.heap.size) ( 1) (by first | assumption | omega | (simp; omega)); rw [hq]; first | exact f1 | (simp [go_sem, World.cell?_alloc_past, f1, d1, r0, r0a, r0b, r1, r1a, r1b]; done)
                 replace d0 : w7.cell? ⟨w.heap.size, 0, none⟩ = some (.int .u64 T) := hx7.has (by first | exact d0 | (simp [go_sem]; done) | (simp [go_sem, World.cell?_alloc_past, d0, r0, r0a, r0b, r1, r1a, r1b]; done))
                 replace d1 : w7.cell? ⟨w.heap.size, 1, none⟩ = some (.int .u64 S) := hx7.has (by first | exact d1 | (simp [go_sem]; done) | (simp [go_sem, World.cell?_alloc_past, d1, r0, r0a, r0b, r1, r1a, r1b]; done))
                 replace e0 : w7.cell? ⟨b1, o1 + k * 2, none⟩ = some (.int .i64 xa) := hx7.has (by first | exact e0 | (simp [go_sem]; done) | (simp [go_sem, World.cell?_alloc_past, e0, r0, r0a, r0b, r1, r1a, r1b]; done))
                 replace e1 : w7.cell? ⟨b1, o1 + k * 2 + 1, none⟩ = some (.int .u64 xb) := hx7.has (by first | exact e1 | (simp [go_sem]; done) | (simp [go_sem, World.cell?_alloc_past, e1, r0, r0a, r0b, r1, r1a, r1b]; done))
                 have z7 := hx7.size
                 try simp at z7
                 replace r0 : w.heap.size < w7.heap.size := by omega
                 replace r0a : w.heap.size < w7.heap.size + 1 := by omega
                 replace r0b : w.heap.size < w7.heap.size + 1 + 1 := by omega
                 replace r1 : b1 < w7.heap.size := by omega
                 replace r1a : b1 < w7.heap.size + 1 := by omega
                 replace r1b : b1 < w7.heap.size + 1 + 1 := by omega
                 have X7 : Hid (Ext w w7) := Lib.hid (Ext.trans (by repeat (first | with_reducible exact X6.out | with_reducible refine Ext.drew ?_ | with_reducible refine Ext.drewN ?_ _ | with_reducible refine Ext.alloc ?_ _ | with_reducible refine Ext.setCell ?_ (by first | omega | (simp; done) | (simp; omega)) _)) hx7)
                 try ((first | have nn := Ext.fresh hx7 (b := w6.heap.size) rfl | have nn := Ext.freshd hx7 (b := w6.heap.size) rfl); obtain ⟨n0, n1, m0, m1, nz⟩ := nn)
                 clear hx7 X6 z7))
          all_goals (go_wp2_with fail; go_meet)
          all_goals (first | (have hst := nz; clear hst; exact ⟨w6.heap.size, rfl, rfl, rfl, by simp [go_sem, World.cell?_alloc_past, d0, d1, f0, f1, e0, e1, r0, r0a, r0b, r1, r1a, r1b, g0, gn0, g1, gn1, n0, n1, m0, m1, nz], by simp [go_sem, World.cell?_alloc_past, d0, d1, f0, f1, e0, e1, r0, r0a, r0b, r1, r1a, r1b, g0, gn0, g1, gn1, n0, n1, m0, m1, nz], by simp [go_sem, World.cell?_alloc_past, d0, d1, f0, f1, e0, e1, r0, r0a, r0b, r1, r1a, r1b, g0, gn0, g1, gn1, n0, n1, m0, m1, nz], by simp [go_sem, World.cell?_alloc_past, d0, d1, f0, f1, e0, e1, r0, r0a, r0b, r1, r1a, r1b, g0, gn0, g1, gn1, n0, n1, m0, m1, nz], by simp [go_sem, World.cell?_alloc_past, d0, d1, f0, f1, e0, e1, r0, r0a, r0b, r1, r1a, r1b, g0, gn0, g1, gn1, n0, n1, m0, m1, nz], by simp [go_sem, World.cell?_alloc_past, d0, d1, f0, f1, e0, e1, r0, r0a, r0b, r1, r1a, r1b, g0, gn0, g1, gn1, n0, n1, m0, m1, nz], by simp [go_sem, World.cell?_alloc_past, d0, d1, f0, f1, e0, e1, r0, r0a, r0b, r1, r1a, r1b, g0, gn0, g1, gn1, n0, n1, m0, m1, nz], by simp [go_sem, World.cell?_alloc_past, d0, d1, f0, f1, e0, e1, r0, r0a, r0b, r1, r1a, r1b, g0, gn0, g1, gn1, n0, n1, m0, m1, nz], by have X := X7.out; exact (by repeat (first | assumption | exact Ext.refl _ | refine Ext.drew ?_ | refine Ext.drewN ?_ _ | refine Ext.alloc ?_ _ | refine Ext.setCell ?_ (by first | omega | (simp; done) | (simp; omega)) _ | refine Ext.trans ?_ (by assumption))), by first | omega | (simp; done) | (simp; omega), by first | omega | (simp; done) | (simp; omega), by first | omega | (simp; done) | (simp; omega)⟩) | (exact ⟨w7.heap.size, rfl, rfl, rfl, by simp [go_sem, World.cell?_alloc_past, d0, d1, f0, f1, e0, e1, r0, r0a, r0b, r1, r1a, r1b, g0, gn0, g1, gn1], by simp [go_sem, World.cell?_alloc_past, d0, d1, f0, f1, e0, e1, r0, r0a, r0b, r1, r1a, r1b, g0, gn0, g1, gn1], by simp [go_sem, World.cell?_alloc_past, d0, d1, f0, f1, e0, e1, r0, r0a, r0b, r1, r1a, r1b, g0, gn0, g1, gn1], by simp [go_sem, World.cell?_alloc_past, d0, d1, f0, f1, e0, e1, r0, r0a, r0b, r1, r1a, r1b, g0, gn0, g1, gn1], by simp [go_sem, World.cell?_alloc_past, d0, d1, f0, f1, e0, e1, r0, r0a, r0b, r1, r1a, r1b, g0, gn0, g1, gn1], by simp [go_sem, World.cell?_alloc_past, d0, d1, f0, f1, e0, e1, r0, r0a, r0b, r1, r1a, r1b, g0, gn0, g1, gn1], by simp [go_sem, World.cell?_alloc_past, d0, d1, f0, f1, e0, e1, r0, r0a, r0b, r1, r1a, r1b, g0, gn0, g1, gn1], by simp [go_sem, World.cell?_alloc_past, d0, d1, f0, f1, e0, e1, r0, r0a, r0b, r1, r1a, r1b, g0, gn0, g1, gn1], by have X := X7.out; exact (by repeat (first | assumption | exact Ext.refl _ | refine Ext.drew ?_ | refine Ext.drewN ?_ _ | refine Ext.alloc ?_ _ | refine Ext.setCell ?_ (by first | omega | (simp; done) | (simp; omega)) _ | refine Ext.trans ?_ (by assumption))), by first | omega | (simp; done) | (simp; omega), by first | omega | (simp; done) | (simp; omega), by first | omega | (simp; done) | (simp; omega)⟩))
        case rest =>
          clear CD X6 d0 d1 f0 f1 e0 e1
          obtain ⟨qb, rfl, rfl, rfl, q0, q1, d0, d1, f0, f1, e0, e1, X, z0, z1, z2⟩ := hcut
          have XC := Lib.hid X
          clear X
          have r0 : w.heap.size < wc.heap.size := by omega
          have r0a : w.heap.size < wc.heap.size + 1 := by omega
          have r0b : w.heap.size < wc.heap.size + 1 + 1 := by omega
          have r1 : b1 < wc.heap.size := by omega
          have r1a : b1 < wc.heap.size + 1 := by omega
          have r1b : b1 < wc.heap.size + 1 + 1 := by omega
          have r2 : qb < wc.heap.size := by omega
          have r2a : qb < wc.heap.size + 1 := by omega
          have r2b : qb < wc.heap.size + 1 + 1 := by omega
          go_wp2_with fail
          go_cut [17, 10, 11] (fun q v1 v2 wc => ActsCut2 w wc T S a b c2 e qb q v1 v2)
          case first =>
            have g0 : w.heap.size < wc.heap.size := r0
            have gn0 : ¬ w.heap.size = wc.heap.size := by omega
            have g1 : b1 < wc.heap.size := r1
            have gn1 : ¬ b1 = wc.heap.size := by omega
            have g2 : qb < wc.heap.size := r2
            have gn2 : ¬ qb = wc.heap.size := by omega
            go_region_held3 (fun w' => w'.cell? ⟨w.heap.size, 0, none⟩ = some (.int .u64 T) ∧ w'.cell? ⟨w.heap.size, 1, none⟩ = some (.int .u64 S) ∧ w'.cell? ⟨b1, o1 + k * 2, none⟩ = some (.int .i64 xa) ∧ w'.cell? ⟨b1, o1 + k * 2 + 1, none⟩ = some (.int .u64 xb) ∧ w'.cell? ⟨qb, 0, none⟩ = some (.int .u64 a) ∧ w'.cell? ⟨qb, 1, none⟩ = some (.int .u64 b))
              (first | exact ⟨d0, d1, e0, e1, q0, q1⟩ | (simp [go_sem, World.cell?_alloc_past]; done) | (simp [go_sem, World.cell?_alloc_past, d0, d1, e0, e1, q0, q1, r0, r0a, r0b, r1, r1a, r1b, r2, r2a, r2b, g0, gn0, g1, gn1, g2, gn2]; done))
              (first
                | (have hst := XC
                   clear hst
                   go_at_call 46
                   (with_reducible refine (CS.out _).mono ?_)
                   rintro e w8 ⟨rfl, hx8⟩
                   replace f0 : w8.frozen? ⟨w.heap.size, 0, none⟩ = false := by have hq := hx8.cells.2 (w.heap.size) ( 0) (by first | assumption | omega | (simp; omega)); rw [hq]; first | exact f0 | (simp [go_sem, World.cell?_alloc_past, f0, d0, r0, r0a, r0b, r1, r1a, r1b, r2, r2a, r2b]; done)
                   replace f1 : w8.frozen? ⟨w.heap.size, 1, none⟩ = false := by have hq := hx8.cells.2 (w.heap.size) ( 1) (by first | assumption | omega | (simp; omega)); rw [hq]; first | exact f1 | (simp [go_sem, World.cell?_alloc_past, f1, d1, r0, r0a, r0b, r1, r1a, r1b, r2, r2a, r2b]; done)
                   replace d0 : w8.cell? ⟨w.heap.size, 0, none⟩ = some (.int .u64 T) := hx8.has (by first | exact d0 | (simp [go_sem]; done) | (simp [go_sem, World.cell?_alloc_past, d0, r0, r0a, r0b, r1, r1a, r1b, r2, r2a, r2b]; done))
                   replace d1 : w8.cell? ⟨w.heap.size, 1, none⟩ = some (.int .u64 S) := hx8.has (by first | exact d1 | (simp [go_sem]; done) | (simp [go_sem, World.cell?_alloc_past, d1, r0, r0a, r0b, r1, r1a, r1b, r2, r2a, r2b]; done))
                   replace e0 : w8.cell? ⟨b1, o1 + k * 2, none⟩ = some (.int .i64 xa) := hx8.has (by first | exact e0 | (simp [go_sem]; done) | (simp [go_sem, World.cell?_alloc_past, e0, r0, r0a, r0b, r1, r1a, r1b, r2, r2a, r2b]; done))
                   replace e1 : w8.cell? ⟨b1, o1 + k * 2 + 1, none⟩ = some (.int .u64 xb) := hx8.has (by first | exact e1 | (simp [go_sem]; done) | (simp [go_sem, World.cell?_alloc_past, e1, r0, r0a, r0b, r1, r1a, r1b, r2, r2a, r2b]; done))
                   replace q0 : w8.cell? ⟨qb, 0, none⟩ = some (.int .u64 a) := hx8.has (by first | exact q0 | (simp [go_sem]; done) | (simp [go_sem, World.cell?_alloc_past, q0, r0, r0a, r0b, r1, r1a, r1b, r2, r2a, r2b]; done))
                   replace q1 : w8.cell? ⟨qb, 1, none⟩ = some (.int .u64 b) := hx8.has (by first | exact q1 | (simp [go_sem]; done) | (simp [go_sem, World.cell?_alloc_past, q1, r0, r0a, r0b, r1, r1a, r1b, r2, r2a, r2b]; done))
                   have z8 := hx8.size
                   try simp at z8
                   replace r0 : w.heap.size < w8.heap.size := by omega
                   replace r0a : w.heap.size < w8.heap.size + 1 := by omega
                   replace r0b : w.heap.size < w8.heap.size + 1 + 1 := by omega
                   replace r1 : b1 < w8.heap.size := by omega
                   replace r1a : b1 < w8.heap.size + 1 := by omega
                   replace r1b : b1 < w8.heap.size + 1 + 1 := by omega
                   replace r2 : qb < w8.heap.size := by omega
                   replace r2a : qb < w8.heap.size + 1 := by omega
                   replace r2b : qb < w8.heap.size + 1 + 1 := by omega
                   have X8 : Hid (Ext w w8) := Lib.hid (Ext.trans (by repeat (first | with_reducible exact XC.out | with_reducible refine Ext.drew ?_ | with_reducible refine Ext.drewN ?_ _ | with_reducible refine Ext.alloc ?_ _ | with_reducible refine Ext.setCell ?_ (by first | omega | (simp; done) | (simp; omega)) _)) hx8)
                   try ((first | have nn := Ext.fresh hx8 (b := wc.heap.size) rfl | have nn := Ext.freshd hx8 (b := wc.heap.size) rfl); obtain ⟨n0, n1, m0, m1, nz⟩ := nn)
                   clear hx8 XC z8))
            all_goals (go_wp2_with fail; go_meet)
            all_goals (first | (have hst := nz; clear hst; exact ⟨wc.heap.size, rfl, rfl, rfl, by simp [go_sem, World.cell?_alloc_past, d0, d1, f0, f1, e0, e1, q0, q1, r0, r0a, r0b, r1, r1a, r1b, r2, r2a, r2b, g0, gn0, g1, gn1, g2, gn2, n0, n1, m0, m1, nz], by simp [go_sem, World.cell?_alloc_past, d0, d1, f0, f1, e0, e1, q0, q1, r0, r0a, r0b, r1, r1a, r1b, r2, r2a, r2b, g0, gn0, g1, gn1, g2, gn2, n0, n1, m0, m1, nz], by simp [go_sem, World.cell?_alloc_past, d0, d1, f0, f1, e0, e1, q0, q1, r0, r0a, r0b, r1, r1a, r1b, r2, r2a, r2b, g0, gn0, g1, gn1, g2, gn2, n0, n1, m0, m1, nz], by simp [go_sem, World.cell?_alloc_past, d0, d1, f0, f1, e0, e1, q0, q1, r0, r0a, r0b, r1, r1a, r1b, r2, r2a, r2b, g0, gn0, g1, gn1, g2, gn2, n0, n1, m0, m1, nz], by simp [go_sem, World.cell?_alloc_past, d0, d1, f0, f1, e0, e1, q0, q1, r0, r0a, r0b, r1, r1a, r1b, r2, r2a, r2b, g0, gn0, g1, gn1, g2, gn2, n0, n1, m0, m1, nz], by simp [go_sem, World.cell?_alloc_past, d0, d1, f0, f1, e0, e1, q0, q1, r0, r0a, r0b, r1, r1a, r1b, r2, r2a, r2b, g0, gn0, g1, gn1, g2, gn2, n0, n1, m0, m1, nz], by simp [go_sem, World.cell?_alloc_past, d0, d1, f0, f1, e0, e1, q0, q1, r0, r0a, r0b, r1, r1a, r1b, r2, r2a, r2b, g0, gn0, g1, gn1, g2, gn2, n0, n1, m0, m1, nz], by simp [go_sem, World.cell?_alloc_past, d0, d1, f0, f1, e0, e1, q0, q1, r0, r0a, r0b, r1, r1a, r1b, r2, r2a, r2b, g0, gn0, g1, gn1, g2, gn2, n0, n1, m0, m1, nz], by have X := X8.out; exact (by repeat (first | assumption | exact Ext.refl _ | refine Ext.drew ?_ | refine Ext.drewN ?_ _ | refine Ext.alloc ?_ _ | refine Ext.setCell ?_ (by first | omega | (simp; done) | (simp; omega)) _ | refine Ext.trans ?_ (by assumption))), by first | omega | (simp; done) | (simp; omega), by first | omega | (simp; done) | (simp; omega), by first | omega | (simp; done) | (simp; omega)⟩) | (exact ⟨w8.heap.size, rfl, rfl, rfl, by simp [go_sem, World.cell?_alloc_past, d0, d1, f0, f1, e0, e1, q0, q1, r0, r0a, r0b, r1, r1a, r1b, r2, r2a, r2b, g0, gn0, g1, gn1, g2, gn2], by simp [go_sem, World.cell?_alloc_past, d0, d1, f0, f1, e0, e1, q0, q1, r0, r0a, r0b, r1, r1a, r1b, r2, r2a, r2b, g0, gn0, g1, gn1, g2, gn2], by simp [go_sem, World.cell?_alloc_past, d0, d1, f0, f1, e0, e1, q0, q1, r0, r0a, r0b, r1, r1a, r1b, r2, r2a, r2b, g0, gn0, g1, gn1, g2, gn2], by simp [go_sem, World.cell?_alloc_past, d0, d1, f0, f1, e0, e1, q0, q1, r0, r0a, r0b, r1, r1a, r1b, r2, r2a, r2b, g0, gn0, g1, gn1, g2, gn2], by simp [go_sem, World.cell?_alloc_past, d0, d1, f0, f1, e0, e1, q0, q1, r0, r0a, r0b, r1, r1a, r1b, r2, r2a, r2b, g0, gn0, g1, gn1, g2, gn2], by simp [go_sem, World.cell?_alloc_past, d0, d1, f0, f1, e0, e1, q0, q1, r0, r0a, r0b, r1, r1a, r1b, r2, r2a, r2b, g0, gn0, g1, gn1, g2, gn2], by simp [go_sem, World.cell?_alloc_past, d0, d1, f0, f1, e0, e1, q0, q1, r0, r0a, r0b, r1, r1a, r1b, r2, r2a, r2b, g0, gn0, g1, gn1, g2, gn2], by simp [go_sem, World.cell?_alloc_past, d0, d1, f0, f1, e0, e1, q0, q1, r0, r0a, r0b, r1, r1a, r1b, r2, r2a, r2b, g0, gn0, g1, gn1, g2, gn2], by have X := X8.out; exact (by repeat (first | assumption | exact Ext.refl _ | refine Ext.drew ?_ | refine Ext.drewN ?_ _ | refine Ext.alloc ?_ _ | refine Ext.setCell ?_ (by first | omega | (simp; done) | (simp; omega)) _ | refine Ext.trans ?_ (by assumption))), by first | omega | (simp; done) | (simp; omega), by first | omega | (simp; done) | (simp; omega), by first | omega | (simp; done) | (simp; omega)⟩))
          case rest =>
            clear CS XC d0 d1 f0 f1 e0 e1 q0 q1 z0 z1 z2 r0 r0a r0b r1 r1a r1b r2 r2a r2b
            obtain ⟨rb, rfl, rfl, rfl, q0, q1, d0, d1, f0, f1, p0, p1, X, z0, z1, z2⟩ := hcut
            have XC := Lib.hid X
            clear X
            by_cases he : e = 0
            · subst he
              go_wp2_with fail
              go_roundg (gk - 1)
              case measure => have := HK.out; omega
              case rel => exact ⟨by have := HK.out; omega, a, b, DW, num_eq (by have := HK.out; omega), by simp [go_sem, z0, d0, d1], by simp [go_sem, z0, d0, d1], by simp [go_sem, z0, f0, f1], by simp [go_sem, z0, f0, f1], by have X := XC.out; exact (by repeat (first | assumption | exact Ext.refl _ | refine Ext.drew ?_ | refine Ext.drewN ?_ _ | refine Ext.alloc ?_ _ | refine Ext.setCell ?_ (by first | omega | (simp; done) | (simp; omega)) _ | refine Ext.trans ?_ (by assumption))), by first | omega | (simp; done) | (simp; omega)⟩
            · have hef : (e == 0) = false := beq_false_of_ne he
              go_wp2_with fail
              go_roundg (gk - 1)
              case measure => have := HK.out; omega
              case rel => exact ⟨by have := HK.out; omega, T, S, Lib.hid ⟨WT.out, WS.out⟩, num_eq (by have := HK.out; omega), by first | exact d0 | simp [go_sem, z0, d0], by first | exact d1 | simp [go_sem, z0, d1], by first | exact f0 | simp [go_sem, z0, f0, f1], by first | exact f1 | simp [go_sem, z0, f0, f1], by have X := XC.out; exact (by repeat (first | assumption | exact Ext.refl _ | refine Ext.drew ?_ | refine Ext.drewN ?_ _ | refine Ext.alloc ?_ _ | refine Ext.setCell ?_ (by first | omega | (simp; done) | (simp; omega)) _ | refine Ext.trans ?_ (by assumption))), by first | omega | (simp; omega)⟩
theorem ShareActs_any (t s : Int) (ft : Fits .u64 t) (fs : Fits .u64 s) (n : Int) (fn : Fits .u64 n) (A : Option Addr) (m c : Nat) (l : List (Int × Int)) (w : World) (hsl : Sl w 2 A m c (l.flatMap ac)) (fl : ∀ x ∈ l, Fits .i64 x.1 ∧ Fits .u64 x.2) :
    Calls Try.prog 5 #[.agg #[.int .u64 t, .int .u64 s], .int .u64 n, .slice A m c] w fun r w' => r = .returned (.bool true) ∧ Ext w w' := by
  by_cases hm : (30 : Int) < m
  · exact ShareActs_long t s n A m c _ w hsl hm
  · exact ShareActs_short t s n ft.u64 fs.u64 fn.u64 A m c l w hsl fl (by omega)
end Go.Proofs.Ythaknigljjnnaaa
