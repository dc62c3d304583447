/- The reference's Cmp returns the order of two products, for words. -/
import Derived.Test.YtdckdefjhijihaaFixRefF
import Derived.Test.YtdckdefjhijihaaTimes
set_option linter.unusedVariables false
set_option linter.unusedSimpArgs false
namespace Go.Proofs.Ytdckdefjhijihaa
open Go.RowKit Gr

theorem IsGr.short {w : World} {A : Option Addr} {n c : Nat} {l : List Int} {N : Int} (h : IsGr w A n c l N) {k : Nat} (hN : N < pw k) : n ≤ k := by
  have := len_of h.dig h.nor (by rw [h.eq]; exact hN)
  rw [h.sl.ilen] at this
  exact this
theorem pw4 : pw 4 = 18446744073709551616 := by decide

set_option maxHeartbeats 400000 in
theorem rCmp_any (a b c d : Int) (ha : Word a) (hb : Word b) (hc : Word c) (hd : Word d) (w : World) :
    Calls Try.prog 38 #[.int .u64 a, .int .u64 b, .int .u64 c, .int .u64 d] w fun e w' => e = .returned (.int .i64 (cmpV a b c d)) ∧ Ext w w' := by
  obtain ⟨V, hV⟩ : ∃ V, V = cmpV a b c d := ⟨_, rfl⟩
  rw [← hV]
  have HV := Lib.hid hV
  clear hV
  go_enter Try.func38, Try.ntmps38
  go_wp2_with fail
  refine (kGreat_any a ha _).mono ?_
  rintro e w1 ⟨A1, n1, c1, l1, rfl, g1, hx1⟩
  have G1 := Lib.hid g1
  have X1 := Lib.hid hx1
  clear g1 hx1
  go_wp2_with fail
  refine (kGreat_any b hb _).mono ?_
  rintro e w2 ⟨A2, n2, c2, l2, rfl, g2, hx2⟩
  have G1' := Lib.hid (G1.out.ext hx2)
  have G2 := Lib.hid g2
  have X2 := Lib.hid (X1.out.trans hx2)
  clear g2 hx2 G1 X1
  go_wp2_with fail
  refine (kTimesGreat_any A1 A2 n1 n2 c1 c2 l1 l2 a b _ G1'.out G2.out (by have := G1'.out.short (k := 4) (by rw [pw4]; exact ha.2); omega) (by have := G2.out.short (k := 4) (by rw [pw4]; exact hb.2); omega)).mono ?_
  rintro e w3 ⟨A3, n3, c3, l3, rfl, g3, hx3⟩
  have G3 := Lib.hid g3
  have X3 := Lib.hid (X2.out.trans hx3)
  clear g3 hx3 G1' G2 X2
  go_wp2_with fail
  refine (kGreat_any c hc _).mono ?_
  rintro e w4 ⟨A4, n4, c4, l4, rfl, g4, hx4⟩
  have G3' := Lib.hid (G3.out.ext hx4)
  have G4 := Lib.hid g4
  have X4 := Lib.hid (X3.out.trans hx4)
  clear g4 hx4 G3 X3
  go_wp2_with fail
  refine (kGreat_any d hd _).mono ?_
  rintro e w5 ⟨A5, n5, c5, l5, rfl, g5, hx5⟩
  have G3 := Lib.hid (G3'.out.ext hx5)
  have G4' := Lib.hid (G4.out.ext hx5)
  have G5 := Lib.hid g5
  have X5 := Lib.hid (X4.out.trans hx5)
  clear g5 hx5 G3' G4 X4
  go_wp2_with fail
  refine (kTimesGreat_any A4 A5 n4 n5 c4 c5 l4 l5 c d _ G4'.out G5.out (by have := G4'.out.short (k := 4) (by rw [pw4]; exact hc.2); omega) (by have := G5.out.short (k := 4) (by rw [pw4]; exact hd.2); omega)).mono ?_
  rintro e w6 ⟨A6, n6, c6, l6, rfl, g6, hx6⟩
  have G3' := Lib.hid (G3.out.ext hx6)
  have G6 := Lib.hid g6
  have X6 := Lib.hid (X5.out.trans hx6)
  clear g6 hx6 G3 G4' G5 X5
  obtain ⟨p, hp⟩ : ∃ p, p = decide (a * b < c * d) := ⟨_, rfl⟩
  obtain ⟨q, hq⟩ : ∃ p, p = decide (c * d < a * b) := ⟨_, rfl⟩
  have hVp : V = if p = true then -1 else if q = true then 1 else 0 := by
    rw [HV.out, hp, hq]
    unfold cmpV
    simp only [decide_eq_true_eq]
    repeat' split
    all_goals omega
  have C1 := Lib.hid (kLessGreat_any A3 A6 n3 n6 c3 c6 l3 l6 _ _ w6 G3'.out G6.out)
  rw [← hp] at C1
  have C2 := Lib.hid (fun w7 (h : Drw w6 w7) => kLessGreat_any A6 A3 n6 n3 c6 c3 l6 l3 _ _ w7 (G6.out.drw h) (G3'.out.drw h))
  rw [← hq] at C2
  have HV2 := Lib.hid hVp
  clear hVp hp hq HV
  cases p
  · go_wp2_with fail
    refine C1.out.mono ?_
    rintro e w7 ⟨rfl, hd7⟩
    have D7 := Lib.hid hd7
    clear hd7
    go_wp2_with fail
    refine (C2.out w7 D7.out).mono ?_
    rintro e w8 ⟨rfl, hd8⟩
    have X8 := Lib.hid (X6.out.trans (D7.out.ext.trans hd8.ext))
    clear hd8
    cases q
    · have E := HV2.out
      simp at E
      subst E
      go_wp2_with fail
      go_ret
      exact ⟨rfl, X8.out⟩
    · have E := HV2.out
      simp at E
      subst E
      go_wp2_with fail
      go_ret
      exact ⟨rfl, X8.out⟩
  · have E := HV2.out
    simp at E
    subst E
    go_wp2_with fail
    refine C1.out.mono ?_
    rintro e w7 ⟨rfl, hd7⟩
    have X7 := Lib.hid (X6.out.trans hd7.ext)
    clear hd7
    go_wp2_with fail
    go_ret
    exact ⟨rfl, X7.out⟩
end Go.Proofs.Ytdckdefjhijihaa
