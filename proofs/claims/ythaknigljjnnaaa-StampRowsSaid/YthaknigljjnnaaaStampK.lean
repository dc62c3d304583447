/- law12's small functions; the kit's SameBytes; Hop's contract. Conditions stand in each lemma. -/
import Derived.Test.YthaknigljjnnaaaBytesM
import Derived.Test.YthaknigljjnnaaaStampH
import Derived.Test.YthaknigljjnnaaaStampR
import Derived.Test.YthaknigljjnnaaaStampE
import Derived.Test.YthaknigljjnnaaaStampM
import Derived.Laws.BytesArg
set_option linter.unusedVariables false
set_option linter.unusedSimpArgs false
namespace Go.Proofs.Ythaknigljjnnaaa
open Go.RowKit

theorem lchapter12_any (w : World) :
    Calls Try.prog 59 #[] w fun r w' => r = .returned (.agg #[.int .i64 2, .int .i64 9, .int .i64 1, .int .i64 5]) ∧ Ext w w' := by
  go_enter Try.func59, Try.ntmps59
  go_wp2
  refine bodyPost_ret (v := .agg #[.int .i64 2, .int .i64 9, .int .i64 1, .int .i64 5]) (by simp [results, Try.results59, go_sem]; try rfl) rfl ⟨rfl, ?_⟩
  exact (by repeat (first | assumption | exact Ext.refl _ | refine Ext.drew ?_ | refine Ext.drewN ?_ _ | refine Ext.alloc ?_ _ | refine Ext.setCell ?_ (by first | omega | (simp; done) | (simp; omega)) _ | refine Ext.trans ?_ (by assumption)))
theorem lbare_any (v h : Int) (w : World) :
    Calls Try.prog 61 #[.int .i64 v, .int .i64 h] w fun r w' => r = .returned (.agg #[.int .i64 v, .int .i64 h, .int .i64 (-1), .int .i64 0]) ∧ Ext w w' := by
  go_enter Try.func61, Try.ntmps61
  go_wp2
  refine bodyPost_ret (v := .agg #[.int .i64 v, .int .i64 h, .int .i64 (-1), .int .i64 0]) (by simp [results, Try.results61, go_sem]; try rfl) rfl ⟨rfl, ?_⟩
  exact (by repeat (first | assumption | exact Ext.refl _ | refine Ext.drew ?_ | refine Ext.drewN ?_ _ | refine Ext.alloc ?_ _ | refine Ext.setCell ?_ (by first | omega | (simp; done) | (simp; omega)) _ | refine Ext.trans ?_ (by assumption)))
def hopR (V S P F to t : Int) : Int := firstR [(chkS V S P F != 0, chkS V S P F), (outB to 0 31 || outB t 1 4294967296, 3), (to == V, 2), (decide (t < S), 9)]
def hopZ (V S P F to t x : Int) : Int := if hopR V S P F to t = 0 then x else 0
theorem tHop_any (V S P F to t : Int) (w : World) :
    Calls Try.prog 101 #[.agg #[.int .i64 V, .int .i64 S, .int .i64 P, .int .i64 F], .int .i64 to, .int .i64 t] w fun r w' => r = .returned (.tuple #[.agg #[.int .i64 (hopZ V S P F to t to), .int .i64 (hopZ V S P F to t t), .int .i64 (hopZ V S P F to t V), .int .i64 (hopZ V S P F to t S)], .int .i64 (hopR V S P F to t)]) ∧ Ext w w' := by
  have CK := Lib.hid fun w => tCheck_any V S P F w
  have C1 := fun w => tnoone_any to w
  have C2 := fun w => tnowhen_any t w
  obtain ⟨b1, h1⟩ : ∃ b, outB to 0 31 = b := ⟨_, rfl⟩
  obtain ⟨b2, h2⟩ : ∃ b, outB t 1 4294967296 = b := ⟨_, rfl⟩
  obtain ⟨R, hR⟩ : ∃ R, R = hopR V S P F to t := ⟨_, rfl⟩
  unfold hopZ
  rw [← hR]
  unfold hopR at hR
  rw [h1] at C1 hR
  rw [h2] at C2 hR
  by_cases he : R = 0
  · subst he
    simp only [if_true]
    cases b1
    · exact tHop_ok V S P F to t _ 0 w CK (Lib.hid C1) b2 (Lib.hid C2) (Lib.hid (by simpa using hR.symm))
    · exfalso
      simp [firstR] at hR
      split at hR <;> simp_all
  · simp only [if_neg he]
    cases b1
    · exact tHop_err V S P F to t _ R w CK (Lib.hid C1) b2 (Lib.hid C2) (Lib.hid (by simpa using hR.symm)) (beq_false_of_ne he) (by simpa using he)
    · exact tHop_bad V S P F to t _ R w CK (Lib.hid C1) (Lib.hid (by simpa using hR.symm)) (beq_false_of_ne he) (by simpa using he)
theorem lhops12_eq (V S P F to t R a b c d : Int) (w : World) (h0 : hopR V S P F to t = R) (h1 : hopZ V S P F to t to = a) (h2 : hopZ V S P F to t t = b) (h3 : hopZ V S P F to t V = c) (h4 : hopZ V S P F to t S = d) :
    Calls Try.prog 62 #[.agg #[.int .i64 V, .int .i64 S, .int .i64 P, .int .i64 F], .int .i64 to, .int .i64 t, .agg #[.int .i64 a, .int .i64 b, .int .i64 c, .int .i64 d], .int .i64 R] w fun r w' => r = .returned (.bool true) ∧ Ext w w' := by
  have CH := fun w => tHop_any V S P F to t w
  rw [h0, h1, h2, h3, h4] at CH
  replace CH := Lib.hid CH
  clear h0 h1 h2 h3 h4
  go_enter Try.func62, Try.ntmps62
  go_wp2_with fail
  (with_reducible refine (CH.out _).mono ?_)
  rintro r w1 ⟨rfl, hx1⟩
  have d0 : w1.cell? ⟨w.heap.size + 1, 0, none⟩ = some (.int .i64 a) := hx1.has (by simp [go_sem, World.cell?_alloc_past])
  have d1 : w1.cell? ⟨w.heap.size + 1, 1, none⟩ = some (.int .i64 b) := hx1.has (by simp [go_sem, World.cell?_alloc_past])
  have d2 : w1.cell? ⟨w.heap.size + 1, 2, none⟩ = some (.int .i64 c) := hx1.has (by simp [go_sem, World.cell?_alloc_past])
  have d3 : w1.cell? ⟨w.heap.size + 1, 3, none⟩ = some (.int .i64 d) := hx1.has (by simp [go_sem, World.cell?_alloc_past])
  have hsz := hx1.size
  try simp at hsz
  have X1 := Lib.hid (show Ext w w1 from Ext.trans (((Ext.refl w).alloc _).alloc _) hx1)
  clear hx1 CH
  have r0 : w.heap.size + 1 < w1.heap.size := by omega
  have r0a : w.heap.size + 1 < w1.heap.size + 1 := by omega
  have r0b : w.heap.size + 1 < w1.heap.size + 1 + 1 := by omega
  have r0n : w.heap.size + 1 ≠ w1.heap.size := by omega
  go_wp2
  go_ret
  refine ⟨by simp, ?_⟩
  have hx1 := X1.out
  exact (by repeat (first | assumption | exact Ext.refl _ | refine Ext.drew ?_ | refine Ext.drewN ?_ _ | refine Ext.alloc ?_ _ | refine Ext.setCell ?_ (by first | omega | (simp; done) | (simp; omega)) _ | refine Ext.trans ?_ (by assumption)))
theorem lfault12_any (A : Option Addr) (c : Nat) (L : List Nat) (hB : Byt L) (hL : L.length < 1099511627776) (hnil : A = none → c = 0) (e a : Int) (he : (rdS L).1 = e) (ha : (if (rdS L).1 = 0 then 0 else (rdS L).2) = a) (w : World) (hs : Sl w 1 A L.length c (by_ L)) :
    Calls Try.prog 65 #[.slice A L.length c] w fun r w' => r = .returned (.agg #[.int .i64 e, .int .i64 a]) ∧ Ext w w' := by
  have CR := fun w h => tRead_any A c L hB hL hnil w h
  rw [ha, he] at CR
  have ⟨x0, x1, x2, x3, CR⟩ : ∃ x0 x1 x2 x3 : Int, Hid (∀ w, Sl w 1 A L.length c (by_ L) → Calls Try.prog 35 #[.slice A L.length c] w fun r w' => r = .returned (.tuple #[.agg #[.int .i64 x0, .int .i64 x1, .int .i64 x2, .int .i64 x3], .agg #[.int .i64 e, .int .i64 a]]) ∧ Ext w w') := ⟨_, _, _, _, Lib.hid CR⟩
  clear he ha
  go_enter Try.func65, Try.ntmps65
  go_wp2_with fail
  (with_reducible refine (CR.out _ (hs.ext ((Ext.refl w).alloc _))).mono ?_)
  rintro r w1 ⟨rfl, hx1⟩
  have d0 : w1.cell? ⟨w.heap.size, 0, none⟩ = some (.int .i64 0) := hx1.has (by simp [go_sem, World.cell?_alloc_past])
  have d1 : w1.cell? ⟨w.heap.size, 1, none⟩ = some (.int .i64 0) := hx1.has (by simp [go_sem, World.cell?_alloc_past])
  have d2 : w1.frozen? ⟨w.heap.size, 0, none⟩ = false := hx1.froz (v := .int .i64 0) (by simp [go_sem, World.cell?_alloc_past]) (by simp [go_sem])
  have d3 : w1.frozen? ⟨w.heap.size, 1, none⟩ = false := hx1.froz (v := .int .i64 0) (by simp [go_sem, World.cell?_alloc_past]) (by simp [go_sem])
  have hsz := hx1.size
  try simp at hsz
  have X1 := Lib.hid (show Ext w w1 from Ext.trans ((Ext.refl w).alloc _) hx1)
  clear hx1 CR
  have r0 : w.heap.size < w1.heap.size := by omega
  have r0a : w.heap.size < w1.heap.size + 1 := by omega
  have r0b : w.heap.size < w1.heap.size + 1 + 1 := by omega
  have r0n : w.heap.size ≠ w1.heap.size := by omega
  go_wp2

  refine bodyPost_ret (v := .agg #[.int .i64 e, .int .i64 a]) (by simp [results, Try.results65, go_sem, d0, d1, r0, r0a, r0b, World.cell?_alloc_past]; try rfl) rfl ⟨rfl, ?_⟩
  have hx1 := X1.out
  exact (by repeat (first | assumption | exact Ext.refl _ | refine Ext.drew ?_ | refine Ext.drewN ?_ _ | refine Ext.alloc ?_ _ | refine Ext.setCell ?_ (by first | omega | (simp; done) | (simp; omega)) _ | refine Ext.trans ?_ (by assumption)))
end Go.Proofs.Ythaknigljjnnaaa
