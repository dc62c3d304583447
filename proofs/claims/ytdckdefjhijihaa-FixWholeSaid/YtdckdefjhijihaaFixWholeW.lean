/- What is proved: distraintlaw01.FixWhole returns true for every four words; nothing that was there is written. Conditions: none. -/
import Derived.Test.YtdckdefjhijihaaFixKnownW
import Derived.Test.YtdckdefjhijihaaSumGreat
set_option linter.unusedVariables false
set_option linter.unusedSimpArgs false
namespace Go.Proofs.Ytdckdefjhijihaa
open Go.RowKit Gr

theorem lgreat_any (a b : Int) (ha : Word a) (hb : Word b) (w : World) :
    Calls Try.prog 42 #[.int .u64 a, .int .u64 b] w (GrRet (a * b) w) := by
  go_enter Try.func42, Try.ntmps42
  go_wp2_with fail
  refine (kGreat_any a ha _).mono ?_
  rintro e w1 ⟨A1, n1, c1, l1, rfl, g1, hx1⟩
  have G1 := Lib.hid g1
  have X1 := Lib.hid hx1
  clear g1 hx1
  go_wp2_with fail
  refine (kGreat_any b hb _).mono ?_
  rintro e w2 ⟨A2, n2, c2, l2, rfl, g2, hx2⟩
  have G1' := Lib.hid (G1.out.ext hx2)
  have G2 := Lib.hid g2
  have X2 := Lib.hid (X1.out.trans hx2)
  clear g2 hx2 G1 X1
  go_wp2_with fail
  refine (kTimesGreat_any A1 A2 n1 n2 c1 c2 l1 l2 a b _ G1'.out G2.out (by have := G1'.out.short (k := 4) (by rw [pw4]; exact ha.2); omega) (by have := G2.out.short (k := 4) (by rw [pw4]; exact hb.2); omega)).mono ?_
  rintro e w3 ⟨A3, n3, c3, l3, rfl, g3, hx3⟩
  have H := Lib.hid (show GrRet (a * b) w (.returned (.slice A3 n3 c3)) w3 from ⟨A3, n3, c3, l3, rfl, g3, X2.out.trans hx3⟩)
  clear g3 hx3 G1' G2 X2
  go_wp2_with fail
  go_ret
  exact H.out
/-- 2^64, as it was just laid -/
theorem lit64 (w : World) : IsGr (w.alloc (.cells #[.int .u64 0, .int .u64 0, .int .u64 0, .int .u64 0, .int .u64 1] 22)) (some ⟨w.heap.size, 0, none⟩) 5 5 [0, 0, 0, 0, 1] 18446744073709551616 :=
  ⟨sl_new w 22 1 #[.int .u64 0, .int .u64 0, .int .u64 0, .int .u64 0, .int .u64 1] 5 rfl (by decide), by intro d hd; simp at hd; rcases hd with rfl | rfl <;> decide, by unfold Nor; simp, by decide⟩
theorem pw8 : pw 8 = 340282366920938463463374607431768211456 := by decide
theorem pw9 : pw 9 = 22300745198530623141535718272648361505980416 := by decide
theorem fRest_at (a b c x y : Int) (ha : Word a) (hb : Word b) (hc : Word c) (h1 : reN a b c = x) (h2 : reE c = y) (w : World) :
    Calls Try.prog 31 #[.int .u64 a, .int .u64 b, .int .u64 c] w fun e w' => e = .returned (.tuple #[.int .u64 x, .int .i64 y]) ∧ Ext w w' := by
  rw [← h1, ← h2]; exact fRest_any a b c ha hb hc w
set_option maxRecDepth 100000 in
set_option maxHeartbeats 2000000 in
theorem FixWhole_zero (a b c d : Int) (fa : Word a) (fb : Word b) (fc : Word c) (fd : Word d) (hz : (c == 0) = true) (w : World) :
    Calls Try.prog 6 #[.int .u64 a, .int .u64 b, .int .u64 c, .int .u64 d] w fun r w' => r = .returned (.bool true) ∧ Ext w w' := by
  have ha := Lib.hid fa
  have hb := Lib.hid fb
  have hc := Lib.hid fc
  have hd := Lib.hid fd
  have c0 := fc.1
  have c1 := fc.2
  clear fa fb fc fd
  obtain ⟨V, hV⟩ : ∃ V, cmpV a b c d = V := ⟨_, rfl⟩
  have HV := Lib.hid hV
  obtain ⟨p, hp⟩ : ∃ p, decide (a * b < c * d) = p := ⟨_, rfl⟩
  obtain ⟨q, hq⟩ : ∃ q, decide (c * d < a * b) = q := ⟨_, rfl⟩
  have HP := Lib.hid hp
  have HQ := Lib.hid hq
  have e1 : decide (V < 0) = p := by
    rw [← hp, ← hV]; unfold cmpV; rw [Bool.eq_iff_iff]; simp only [decide_eq_true_eq]; repeat' split
    all_goals omega
  have e2 : decide (0 < V) = q := by
    rw [← hq, ← hV]; unfold cmpV; rw [Bool.eq_iff_iff]; simp only [decide_eq_true_eq]; repeat' split
    all_goals omega
  clear hp hq hV
  go_enter Try.func6, Try.ntmps6
  go_wp2_with fail
  refine (FixKnown_any _).mono ?_
  rintro e w1 ⟨rfl, hx1⟩
  have X1 := Lib.hid hx1
  clear hx1
  go_wp2_with fail
  refine (fWide_any a b ha.out hb.out _).mono ?_
  rintro e w2 ⟨rfl, hx2⟩
  have X2 := Lib.hid (X1.out.trans hx2)
  clear hx2 X1
  go_wp2_with fail
  refine (lgreat_any a b ha.out hb.out _).mono ?_
  rintro e w3 ⟨Aa, na, ca, la, rfl, ga, hx3⟩
  have GA3 := Lib.hid ga
  have X3 := Lib.hid (X2.out.trans hx3)
  clear ga hx3 X2
  go_wp2_with fail
  refine (kGreat_any (loN a b) (word_lo a b) _).mono ?_
  rintro e w4 ⟨Al, nl, cl, ll, rfl, gl, hx4⟩
  have GA4 := Lib.hid (GA3.out.ext hx4)
  have GL4 := Lib.hid gl
  have X4 := Lib.hid (X3.out.trans hx4)
  clear gl hx4 X3 GA3
  go_wp2_with fail
  refine (kGreat_any (hiN a b) (word_hi ha.out hb.out) _).mono ?_
  rintro e w5 ⟨Ah, nh, ch, lh, rfl, gh, hx5⟩
  have hxl5 := (Ext.refl w5).alloc (.cells #[.int .u64 0, .int .u64 0, .int .u64 0, .int .u64 0, .int .u64 1] 22)
  have hx5' := hx5.trans hxl5
  have GA5 := Lib.hid (GA4.out.ext hx5')
  have GL5 := Lib.hid (GL4.out.ext hx5')
  have GH5 := Lib.hid (gh.ext hxl5)
  have X5 := Lib.hid (X4.out.trans hx5')
  clear gh hx5 hx5' hxl5 X4 GA4 GL4
  go_wp2_with fail
  refine (kTimesGreat_any Ah _ nh 5 ch 5 lh [0, 0, 0, 0, 1] (hiN a b) 18446744073709551616 _ GH5.out (lit64 w5) (by have := GH5.out.short (k := 4) (by rw [pw4]; exact (word_hi ha.out hb.out).2); omega) (by decide)).mono ?_
  rintro e w6 ⟨At, nt, ct, lt, rfl, gt, hx6⟩
  have GA6 := Lib.hid (GA5.out.ext hx6)
  have GL6 := Lib.hid (GL5.out.ext hx6)
  have GT6 := Lib.hid gt
  have X6 := Lib.hid (X5.out.trans hx6)
  clear gt hx6 X5 GA5 GL5 GH5
  go_wp2_with fail
  refine (kSumGreat_any Al At nl nt cl ct ll lt _ _ _ GL6.out GT6.out (by have := GL6.out.short (k := 4) (by rw [pw4]; exact (word_lo a b).2); omega) (by have := GT6.out.short (k := 8) (by rw [pw8]; have := (word_hi ha.out hb.out).2; omega); omega)).mono ?_
  rintro e w7 ⟨Aw, nw, cw, lw, rfl, gw, hx7⟩
  have GA7 := Lib.hid (GA6.out.ext hx7)
  have GW7 := Lib.hid gw
  have X7 := Lib.hid (X6.out.trans hx7)
  clear gw hx7 X6 GA6 GL6 GT6
  go_wp2_with fail
  refine (lgreat_any c d hc.out hd.out _).mono ?_
  rintro e w8 ⟨Ao, no, co, lo, rfl, go, hx8⟩
  have GA8 := Lib.hid (GA7.out.ext hx8)
  have GW8 := Lib.hid (GW7.out.ext hx8)
  have GO8 := Lib.hid go
  have X8 := Lib.hid (X7.out.trans hx8)
  clear go hx8 X7 GA7 GW7
  go_wp2_with fail
  refine (fCmp_at a b c d V ha.out hb.out hc.out hd.out HV.out _).mono ?_
  rintro e w9 ⟨rfl, hx9⟩
  have GA9 := Lib.hid (GA8.out.ext hx9)
  have GW9 := Lib.hid (GW8.out.ext hx9)
  have GO9 := Lib.hid (GO8.out.ext hx9)
  have X9 := Lib.hid (X8.out.trans hx9)
  clear hx9 X8 GA8 GW8 GO8
  have same1 := kSameGreat_any Aa Aw na nw ca cw la lw _ _ w9 GA9.out GW9.out
  rw [decide_eq_true (show a * b = loN a b + hiN a b * 18446744073709551616 from by have := hi_lo a b; omega)] at same1
  have SM := Lib.hid same1
  clear same1
  go_wp2_with fail
  refine SM.out.mono ?_
  rintro e w10 ⟨rfl, hd10⟩
  have GA10 := Lib.hid (GA9.out.drw hd10)
  have GO10 := Lib.hid (GO9.out.drw hd10)
  have X10 := Lib.hid (X9.out.trans hd10.ext)
  clear hd10 X9 GA9 GW9 GO9 SM
  have less1 := kLessGreat_any Aa Ao na no ca co la lo _ _ w10 GA10.out GO10.out
  rw [HP.out] at less1
  have L1 := Lib.hid less1
  clear less1
  go_wp2_with fail
  refine L1.out.mono ?_
  rintro e w11 ⟨rfl, hd11⟩
  have GA11 := Lib.hid (GA10.out.drw hd11)
  have GO11 := Lib.hid (GO10.out.drw hd11)
  have X11 := Lib.hid (X10.out.trans hd11.ext)
  clear hd11 X10 GA10 GO10 L1
  have less2 := kLessGreat_any Ao Aa no na co ca lo la _ _ w11 GO11.out GA11.out
  rw [HQ.out] at less2
  have L2 := Lib.hid less2
  clear less2
  go_wp2_with fail
  refine L2.out.mono ?_
  rintro e w12 ⟨rfl, hd12⟩
  have GA12 := Lib.hid (GA11.out.drw hd12)
  have X12 := Lib.hid (X11.out.trans hd12.ext)
  clear hd12 X11 GA11 GO11 L2
  go_wp2_with fail
  go_ret
  exact ⟨rfl, X12.out⟩
set_option maxRecDepth 100000 in
set_option maxHeartbeats 2000000 in
theorem FixWhole_over (a b c d : Int) (fa : Word a) (fb : Word b) (fc : Word c) (fd : Word d) (r : Int) (hz : (c == 0) = false) (h1 : mdN a b c = 0) (h2 : mdE a b c = 12) (h3 : muN a b c = 0) (h4 : muE a b c = 12) (h5 : reN a b c = r) (h6 : 0 ≤ r) (h7 : r < c) (h8 : decide (a * b < c * 18446744073709551616) = false) (w : World) :
    Calls Try.prog 6 #[.int .u64 a, .int .u64 b, .int .u64 c, .int .u64 d] w fun r w' => r = .returned (.bool true) ∧ Ext w w' := by
  have ha := Lib.hid fa
  have hb := Lib.hid fb
  have hc := Lib.hid fc
  have hd := Lib.hid fd
  have c0 := fc.1
  have c1 := fc.2
  clear fa fb fc fd
  obtain ⟨V, hV⟩ : ∃ V, cmpV a b c d = V := ⟨_, rfl⟩
  have HV := Lib.hid hV
  obtain ⟨p, hp⟩ : ∃ p, decide (a * b < c * d) = p := ⟨_, rfl⟩
  obtain ⟨q, hq⟩ : ∃ q, decide (c * d < a * b) = q := ⟨_, rfl⟩
  have HP := Lib.hid hp
  have HQ := Lib.hid hq
  have e1 : decide (V < 0) = p := by
    rw [← hp, ← hV]; unfold cmpV; rw [Bool.eq_iff_iff]; simp only [decide_eq_true_eq]; repeat' split
    all_goals omega
  have e2 : decide (0 < V) = q := by
    rw [← hq, ← hV]; unfold cmpV; rw [Bool.eq_iff_iff]; simp only [decide_eq_true_eq]; repeat' split
    all_goals omega
  clear hp hq hV
  have C1 := Lib.hid (fMulDiv_at a b c 0 12 ha.out hb.out hc.out h1 h2)
  have C2 := Lib.hid (fMulDivUp_at a b c 0 12 ha.out hb.out hc.out h3 h4)
  have C3 := Lib.hid (fRest_at a b c r 0 ha.out hb.out hc.out h5 (if_neg (by simpa using hz)))
  have HO := Lib.hid h8
  clear h1 h2 h3 h4 h5 h8
  go_enter Try.func6, Try.ntmps6
  go_wp2_with fail
  refine (FixKnown_any _).mono ?_
  rintro e w1 ⟨rfl, hx1⟩
  have X1 := Lib.hid hx1
  clear hx1
  go_wp2_with fail
  refine (fWide_any a b ha.out hb.out _).mono ?_
  rintro e w2 ⟨rfl, hx2⟩
  have X2 := Lib.hid (X1.out.trans hx2)
  clear hx2 X1
  go_wp2_with fail
  refine (lgreat_any a b ha.out hb.out _).mono ?_
  rintro e w3 ⟨Aa, na, ca, la, rfl, ga, hx3⟩
  have GA3 := Lib.hid ga
  have X3 := Lib.hid (X2.out.trans hx3)
  clear ga hx3 X2
  go_wp2_with fail
  refine (kGreat_any (loN a b) (word_lo a b) _).mono ?_
  rintro e w4 ⟨Al, nl, cl, ll, rfl, gl, hx4⟩
  have GA4 := Lib.hid (GA3.out.ext hx4)
  have GL4 := Lib.hid gl
  have X4 := Lib.hid (X3.out.trans hx4)
  clear gl hx4 X3 GA3
  go_wp2_with fail
  refine (kGreat_any (hiN a b) (word_hi ha.out hb.out) _).mono ?_
  rintro e w5 ⟨Ah, nh, ch, lh, rfl, gh, hx5⟩
  have hxl5 := (Ext.refl w5).alloc (.cells #[.int .u64 0, .int .u64 0, .int .u64 0, .int .u64 0, .int .u64 1] 22)
  have hx5' := hx5.trans hxl5
  have GA5 := Lib.hid (GA4.out.ext hx5')
  have GL5 := Lib.hid (GL4.out.ext hx5')
  have GH5 := Lib.hid (gh.ext hxl5)
  have X5 := Lib.hid (X4.out.trans hx5')
  clear gh hx5 hx5' hxl5 X4 GA4 GL4
  go_wp2_with fail
  refine (kTimesGreat_any Ah _ nh 5 ch 5 lh [0, 0, 0, 0, 1] (hiN a b) 18446744073709551616 _ GH5.out (lit64 w5) (by have := GH5.out.short (k := 4) (by rw [pw4]; exact (word_hi ha.out hb.out).2); omega) (by decide)).mono ?_
  rintro e w6 ⟨At, nt, ct, lt, rfl, gt, hx6⟩
  have GA6 := Lib.hid (GA5.out.ext hx6)
  have GL6 := Lib.hid (GL5.out.ext hx6)
  have GT6 := Lib.hid gt
  have X6 := Lib.hid (X5.out.trans hx6)
  clear gt hx6 X5 GA5 GL5 GH5
  go_wp2_with fail
  refine (kSumGreat_any Al At nl nt cl ct ll lt _ _ _ GL6.out GT6.out (by have := GL6.out.short (k := 4) (by rw [pw4]; exact (word_lo a b).2); omega) (by have := GT6.out.short (k := 8) (by rw [pw8]; have := (word_hi ha.out hb.out).2; omega); omega)).mono ?_
  rintro e w7 ⟨Aw, nw, cw, lw, rfl, gw, hx7⟩
  have GA7 := Lib.hid (GA6.out.ext hx7)
  have GW7 := Lib.hid gw
  have X7 := Lib.hid (X6.out.trans hx7)
  clear gw hx7 X6 GA6 GL6 GT6
  go_wp2_with fail
  refine (lgreat_any c d hc.out hd.out _).mono ?_
  rintro e w8 ⟨Ao, no, co, lo, rfl, go, hx8⟩
  have GA8 := Lib.hid (GA7.out.ext hx8)
  have GW8 := Lib.hid (GW7.out.ext hx8)
  have GO8 := Lib.hid go
  have X8 := Lib.hid (X7.out.trans hx8)
  clear go hx8 X7 GA7 GW7
  go_wp2_with fail
  refine (fCmp_at a b c d V ha.out hb.out hc.out hd.out HV.out _).mono ?_
  rintro e w9 ⟨rfl, hx9⟩
  have GA9 := Lib.hid (GA8.out.ext hx9)
  have GW9 := Lib.hid (GW8.out.ext hx9)
  have GO9 := Lib.hid (GO8.out.ext hx9)
  have X9 := Lib.hid (X8.out.trans hx9)
  clear hx9 X8 GA8 GW8 GO8
  have same1 := kSameGreat_any Aa Aw na nw ca cw la lw _ _ w9 GA9.out GW9.out
  rw [decide_eq_true (show a * b = loN a b + hiN a b * 18446744073709551616 from by have := hi_lo a b; omega)] at same1
  have SM := Lib.hid same1
  clear same1
  go_wp2_with fail
  refine SM.out.mono ?_
  rintro e w10 ⟨rfl, hd10⟩
  have GA10 := Lib.hid (GA9.out.drw hd10)
  have GO10 := Lib.hid (GO9.out.drw hd10)
  have X10 := Lib.hid (X9.out.trans hd10.ext)
  clear hd10 X9 GA9 GW9 GO9 SM
  have less1 := kLessGreat_any Aa Ao na no ca co la lo _ _ w10 GA10.out GO10.out
  rw [HP.out] at less1
  have L1 := Lib.hid less1
  clear less1
  go_wp2_with fail
  refine L1.out.mono ?_
  rintro e w11 ⟨rfl, hd11⟩
  have GA11 := Lib.hid (GA10.out.drw hd11)
  have GO11 := Lib.hid (GO10.out.drw hd11)
  have X11 := Lib.hid (X10.out.trans hd11.ext)
  clear hd11 X10 GA10 GO10 L1
  have less2 := kLessGreat_any Ao Aa no na co ca lo la _ _ w11 GO11.out GA11.out
  rw [HQ.out] at less2
  have L2 := Lib.hid less2
  clear less2
  go_wp2_with fail
  refine L2.out.mono ?_
  rintro e w12 ⟨rfl, hd12⟩
  have GA12 := Lib.hid (GA11.out.drw hd12)
  have X12 := Lib.hid (X11.out.trans hd12.ext)
  clear hd12 X11 GA11 GO11 L2
  go_wp2_with fail
  refine (C1.out _).mono ?_
  rintro e w13 ⟨rfl, hx13⟩
  have GA13 := Lib.hid (GA12.out.ext hx13)
  have X13 := Lib.hid (X12.out.trans hx13)
  clear hx13 X12 GA12
  go_wp2_with fail
  refine (C2.out _).mono ?_
  rintro e w14 ⟨rfl, hx14⟩
  have GA14 := Lib.hid (GA13.out.ext hx14)
  have X14 := Lib.hid (X13.out.trans hx14)
  clear hx14 X13 GA13
  go_wp2_with fail
  refine (C3.out _).mono ?_
  rintro e w15 ⟨rfl, hx15⟩
  have GA15 := Lib.hid (GA14.out.ext hx15)
  have X15 := Lib.hid (X14.out.trans hx15)
  clear hx15 X14 GA14
  go_wp2_with fail
  refine (kGreat_any c hc.out _).mono ?_
  rintro e w16 ⟨Ac, nc, cc, lc, rfl, gc, hx16⟩
  have hxl := (Ext.refl w16).alloc (.cells #[.int .u64 0, .int .u64 0, .int .u64 0, .int .u64 0, .int .u64 1] 22)
  have hx16' := hx16.trans hxl
  have GA16 := Lib.hid (GA15.out.ext hx16')
  have GC16 := Lib.hid (gc.ext hxl)
  have X16 := Lib.hid (X15.out.trans hx16')
  clear gc hx16 hx16' hxl X15 GA15
  go_wp2_with fail
  refine (kTimesGreat_any Ac _ nc 5 cc 5 lc [0, 0, 0, 0, 1] c 18446744073709551616 _ GC16.out (lit64 w16) (by have := GC16.out.short (k := 4) (by rw [pw4]; exact hc.out.2); omega) (by decide)).mono ?_
  rintro e w17 ⟨As, ns, cs, ls, rfl, gs, hx17⟩
  have GA17 := Lib.hid (GA16.out.ext hx17)
  have GS17 := Lib.hid gs
  have X17 := Lib.hid (X16.out.trans hx17)
  clear gs hx17 X16 GA16 GC16
  have less3 := kLessGreat_any Aa As na ns ca cs la ls _ _ w17 GA17.out GS17.out
  rw [HO.out] at less3
  have L3 := Lib.hid less3
  clear less3
  go_wp2_with fail
  refine L3.out.mono ?_
  rintro e w18 ⟨rfl, hd18⟩
  have GA18 := Lib.hid (GA17.out.drw hd18)
  have X18 := Lib.hid (X17.out.trans hd18.ext)
  clear hd18 X17 GA17 GS17 L3
  go_wp2_with fail
  go_ret
  exact ⟨rfl, X18.out⟩
set_option maxRecDepth 100000 in
set_option maxHeartbeats 2000000 in
theorem FixWhole_ok1 (a b c d : Int) (fa : Word a) (fb : Word b) (fc : Word c) (fd : Word d) (n : Int) (hz : (c == 0) = false) (h1 : mdN a b c = n) (h2 : mdE a b c = 0) (h3 : muN a b c = n) (h4 : muE a b c = 0) (h5 : reN a b c = 0) (h6 : 0 ≤ (0 : Int)) (h7 : 0 < c) (h8 : decide (a * b < c * 18446744073709551616) = true) (h9 : a * b = n * c + 0) (wn : Word n) (w : World) :
    Calls Try.prog 6 #[.int .u64 a, .int .u64 b, .int .u64 c, .int .u64 d] w fun r w' => r = .returned (.bool true) ∧ Ext w w' := by
  have ha := Lib.hid fa
  have hb := Lib.hid fb
  have hc := Lib.hid fc
  have hd := Lib.hid fd
  have c0 := fc.1
  have c1 := fc.2
  clear fa fb fc fd
  obtain ⟨V, hV⟩ : ∃ V, cmpV a b c d = V := ⟨_, rfl⟩
  have HV := Lib.hid hV
  obtain ⟨p, hp⟩ : ∃ p, decide (a * b < c * d) = p := ⟨_, rfl⟩
  obtain ⟨q, hq⟩ : ∃ q, decide (c * d < a * b) = q := ⟨_, rfl⟩
  have HP := Lib.hid hp
  have HQ := Lib.hid hq
  have e1 : decide (V < 0) = p := by
    rw [← hp, ← hV]; unfold cmpV; rw [Bool.eq_iff_iff]; simp only [decide_eq_true_eq]; repeat' split
    all_goals omega
  have e2 : decide (0 < V) = q := by
    rw [← hq, ← hV]; unfold cmpV; rw [Bool.eq_iff_iff]; simp only [decide_eq_true_eq]; repeat' split
    all_goals omega
  clear hp hq hV
  have C1 := Lib.hid (fMulDiv_at a b c n 0 ha.out hb.out hc.out h1 h2)
  have C2 := Lib.hid (fMulDivUp_at a b c n 0 ha.out hb.out hc.out h3 h4)
  have C3 := Lib.hid (fRest_at a b c 0 0 ha.out hb.out hc.out h5 (if_neg (by simpa using hz)))
  have HO := Lib.hid h8
  have HS := Lib.hid h9
  have WN := Lib.hid wn
  have WR := Lib.hid (show Word 0 from ⟨h6, by omega⟩)
  have n0 := wn.1
  clear h1 h2 h3 h4 h5 h8 h9 wn
  go_enter Try.func6, Try.ntmps6
  go_wp2_with fail
  refine (FixKnown_any _).mono ?_
  rintro e w1 ⟨rfl, hx1⟩
  have X1 := Lib.hid hx1
  clear hx1
  go_wp2_with fail
  refine (fWide_any a b ha.out hb.out _).mono ?_
  rintro e w2 ⟨rfl, hx2⟩
  have X2 := Lib.hid (X1.out.trans hx2)
  clear hx2 X1
  go_wp2_with fail
  refine (lgreat_any a b ha.out hb.out _).mono ?_
  rintro e w3 ⟨Aa, na, ca, la, rfl, ga, hx3⟩
  have GA3 := Lib.hid ga
  have X3 := Lib.hid (X2.out.trans hx3)
  clear ga hx3 X2
  go_wp2_with fail
  refine (kGreat_any (loN a b) (word_lo a b) _).mono ?_
  rintro e w4 ⟨Al, nl, cl, ll, rfl, gl, hx4⟩
  have GA4 := Lib.hid (GA3.out.ext hx4)
  have GL4 := Lib.hid gl
  have X4 := Lib.hid (X3.out.trans hx4)
  clear gl hx4 X3 GA3
  go_wp2_with fail
  refine (kGreat_any (hiN a b) (word_hi ha.out hb.out) _).mono ?_
  rintro e w5 ⟨Ah, nh, ch, lh, rfl, gh, hx5⟩
  have hxl5 := (Ext.refl w5).alloc (.cells #[.int .u64 0, .int .u64 0, .int .u64 0, .int .u64 0, .int .u64 1] 22)
  have hx5' := hx5.trans hxl5
  have GA5 := Lib.hid (GA4.out.ext hx5')
  have GL5 := Lib.hid (GL4.out.ext hx5')
  have GH5 := Lib.hid (gh.ext hxl5)
  have X5 := Lib.hid (X4.out.trans hx5')
  clear gh hx5 hx5' hxl5 X4 GA4 GL4
  go_wp2_with fail
  refine (kTimesGreat_any Ah _ nh 5 ch 5 lh [0, 0, 0, 0, 1] (hiN a b) 18446744073709551616 _ GH5.out (lit64 w5) (by have := GH5.out.short (k := 4) (by rw [pw4]; exact (word_hi ha.out hb.out).2); omega) (by decide)).mono ?_
  rintro e w6 ⟨At, nt, ct, lt, rfl, gt, hx6⟩
  have GA6 := Lib.hid (GA5.out.ext hx6)
  have GL6 := Lib.hid (GL5.out.ext hx6)
  have GT6 := Lib.hid gt
  have X6 := Lib.hid (X5.out.trans hx6)
  clear gt hx6 X5 GA5 GL5 GH5
  go_wp2_with fail
  refine (kSumGreat_any Al At nl nt cl ct ll lt _ _ _ GL6.out GT6.out (by have := GL6.out.short (k := 4) (by rw [pw4]; exact (word_lo a b).2); omega) (by have := GT6.out.short (k := 8) (by rw [pw8]; have := (word_hi ha.out hb.out).2; omega); omega)).mono ?_
  rintro e w7 ⟨Aw, nw, cw, lw, rfl, gw, hx7⟩
  have GA7 := Lib.hid (GA6.out.ext hx7)
  have GW7 := Lib.hid gw
  have X7 := Lib.hid (X6.out.trans hx7)
  clear gw hx7 X6 GA6 GL6 GT6
  go_wp2_with fail
  refine (lgreat_any c d hc.out hd.out _).mono ?_
  rintro e w8 ⟨Ao, no, co, lo, rfl, go, hx8⟩
  have GA8 := Lib.hid (GA7.out.ext hx8)
  have GW8 := Lib.hid (GW7.out.ext hx8)
  have GO8 := Lib.hid go
  have X8 := Lib.hid (X7.out.trans hx8)
  clear go hx8 X7 GA7 GW7
  go_wp2_with fail
  refine (fCmp_at a b c d V ha.out hb.out hc.out hd.out HV.out _).mono ?_
  rintro e w9 ⟨rfl, hx9⟩
  have GA9 := Lib.hid (GA8.out.ext hx9)
  have GW9 := Lib.hid (GW8.out.ext hx9)
  have GO9 := Lib.hid (GO8.out.ext hx9)
  have X9 := Lib.hid (X8.out.trans hx9)
  clear hx9 X8 GA8 GW8 GO8
  have same1 := kSameGreat_any Aa Aw na nw ca cw la lw _ _ w9 GA9.out GW9.out
  rw [decide_eq_true (show a * b = loN a b + hiN a b * 18446744073709551616 from by have := hi_lo a b; omega)] at same1
  have SM := Lib.hid same1
  clear same1
  go_wp2_with fail
  refine SM.out.mono ?_
  rintro e w10 ⟨rfl, hd10⟩
  have GA10 := Lib.hid (GA9.out.drw hd10)
  have GO10 := Lib.hid (GO9.out.drw hd10)
  have X10 := Lib.hid (X9.out.trans hd10.ext)
  clear hd10 X9 GA9 GW9 GO9 SM
  have less1 := kLessGreat_any Aa Ao na no ca co la lo _ _ w10 GA10.out GO10.out
  rw [HP.out] at less1
  have L1 := Lib.hid less1
  clear less1
  go_wp2_with fail
  refine L1.out.mono ?_
  rintro e w11 ⟨rfl, hd11⟩
  have GA11 := Lib.hid (GA10.out.drw hd11)
  have GO11 := Lib.hid (GO10.out.drw hd11)
  have X11 := Lib.hid (X10.out.trans hd11.ext)
  clear hd11 X10 GA10 GO10 L1
  have less2 := kLessGreat_any Ao Aa no na co ca lo la _ _ w11 GO11.out GA11.out
  rw [HQ.out] at less2
  have L2 := Lib.hid less2
  clear less2
  go_wp2_with fail
  refine L2.out.mono ?_
  rintro e w12 ⟨rfl, hd12⟩
  have GA12 := Lib.hid (GA11.out.drw hd12)
  have X12 := Lib.hid (X11.out.trans hd12.ext)
  clear hd12 X11 GA11 GO11 L2
  go_wp2_with fail
  refine (C1.out _).mono ?_
  rintro e w13 ⟨rfl, hx13⟩
  have GA13 := Lib.hid (GA12.out.ext hx13)
  have X13 := Lib.hid (X12.out.trans hx13)
  clear hx13 X12 GA12
  go_wp2_with fail
  refine (C2.out _).mono ?_
  rintro e w14 ⟨rfl, hx14⟩
  have GA14 := Lib.hid (GA13.out.ext hx14)
  have X14 := Lib.hid (X13.out.trans hx14)
  clear hx14 X13 GA13
  go_wp2_with fail
  refine (C3.out _).mono ?_
  rintro e w15 ⟨rfl, hx15⟩
  have GA15 := Lib.hid (GA14.out.ext hx15)
  have X15 := Lib.hid (X14.out.trans hx15)
  clear hx15 X14 GA14
  go_wp2_with fail
  refine (kGreat_any c hc.out _).mono ?_
  rintro e w16 ⟨Ac, nc, cc, lc, rfl, gc, hx16⟩
  have hxl := (Ext.refl w16).alloc (.cells #[.int .u64 0, .int .u64 0, .int .u64 0, .int .u64 0, .int .u64 1] 22)
  have hx16' := hx16.trans hxl
  have GA16 := Lib.hid (GA15.out.ext hx16')
  have GC16 := Lib.hid (gc.ext hxl)
  have X16 := Lib.hid (X15.out.trans hx16')
  clear gc hx16 hx16' hxl X15 GA15
  go_wp2_with fail
  refine (kTimesGreat_any Ac _ nc 5 cc 5 lc [0, 0, 0, 0, 1] c 18446744073709551616 _ GC16.out (lit64 w16) (by have := GC16.out.short (k := 4) (by rw [pw4]; exact hc.out.2); omega) (by decide)).mono ?_
  rintro e w17 ⟨As, ns, cs, ls, rfl, gs, hx17⟩
  have GA17 := Lib.hid (GA16.out.ext hx17)
  have GS17 := Lib.hid gs
  have X17 := Lib.hid (X16.out.trans hx17)
  clear gs hx17 X16 GA16 GC16
  have less3 := kLessGreat_any Aa As na ns ca cs la ls _ _ w17 GA17.out GS17.out
  rw [HO.out] at less3
  have L3 := Lib.hid less3
  clear less3
  go_wp2_with fail
  refine L3.out.mono ?_
  rintro e w18 ⟨rfl, hd18⟩
  have GA18 := Lib.hid (GA17.out.drw hd18)
  have X18 := Lib.hid (X17.out.trans hd18.ext)
  clear hd18 X17 GA17 GS17 L3
  go_wp2_with fail
  refine (lgreat_any _ c WN.out hc.out _).mono ?_
  rintro e w19 ⟨An, nn, cn, ln, rfl, gn, hx19⟩
  have GA19 := Lib.hid (GA18.out.ext hx19)
  have GN19 := Lib.hid gn
  have X19 := Lib.hid (X18.out.trans hx19)
  clear gn hx19 X18 GA18
  go_wp2_with fail
  refine (kGreat_any _ WR.out _).mono ?_
  rintro e w20 ⟨Ar, nr, cr, lr, rfl, gr, hx20⟩
  have GA20 := Lib.hid (GA19.out.ext hx20)
  have GN20 := Lib.hid (GN19.out.ext hx20)
  have GR20 := Lib.hid gr
  have X20 := Lib.hid (X19.out.trans hx20)
  clear gr hx20 X19 GA19 GN19
  go_wp2_with fail
  refine (kSumGreat_any An Ar nn nr cn cr ln lr _ _ _ GN20.out GR20.out (by have := GN20.out.short (k := 8) (by rw [pw8]; have := (prod_bounds WN.out hc.out).2; omega); omega) (by have := GR20.out.short (k := 4) (by rw [pw4]; exact WR.out.2); omega)).mono ?_
  rintro e w21 ⟨Az, nz, cz, lz, rfl, gz, hx21⟩
  have GA21 := Lib.hid (GA20.out.ext hx21)
  have GZ21 := Lib.hid gz
  have X21 := Lib.hid (X20.out.trans hx21)
  clear gz hx21 X20 GA20 GN20 GR20
  have same2 := kSameGreat_any Aa Az na nz ca cz la lz _ _ w21 GA21.out GZ21.out
  rw [decide_eq_true HS.out] at same2
  have SM := Lib.hid same2
  clear same2
  go_wp2_with fail
  refine SM.out.mono ?_
  rintro e w22 ⟨rfl, hd22⟩
  have X22 := Lib.hid (X21.out.trans hd22.ext)
  clear hd22 X21 GA21 GZ21 SM
  go_wp2_with fail
  go_ret
  exact ⟨rfl, X22.out⟩
set_option maxRecDepth 100000 in
set_option maxHeartbeats 2000000 in
theorem FixWhole_ok2 (a b c d : Int) (fa : Word a) (fb : Word b) (fc : Word c) (fd : Word d) (n r : Int) (hz : (c == 0) = false) (h1 : mdN a b c = n) (h2 : mdE a b c = 0) (h3 : muN a b c = (n + 1)) (h4 : muE a b c = 0) (h5 : reN a b c = r) (h6 : 0 ≤ (r : Int)) (h7 : r < c) (h8 : decide (a * b < c * 18446744073709551616) = true) (h9 : a * b = n * c + r) (wn : Word n) (r0 : 0 < r) (n1 : n < 18446744073709551615) (w : World) :
    Calls Try.prog 6 #[.int .u64 a, .int .u64 b, .int .u64 c, .int .u64 d] w fun r w' => r = .returned (.bool true) ∧ Ext w w' := by
  have ha := Lib.hid fa
  have hb := Lib.hid fb
  have hc := Lib.hid fc
  have hd := Lib.hid fd
  have c0 := fc.1
  have c1 := fc.2
  clear fa fb fc fd
  obtain ⟨V, hV⟩ : ∃ V, cmpV a b c d = V := ⟨_, rfl⟩
  have HV := Lib.hid hV
  obtain ⟨p, hp⟩ : ∃ p, decide (a * b < c * d) = p := ⟨_, rfl⟩
  obtain ⟨q, hq⟩ : ∃ q, decide (c * d < a * b) = q := ⟨_, rfl⟩
  have HP := Lib.hid hp
  have HQ := Lib.hid hq
  have e1 : decide (V < 0) = p := by
    rw [← hp, ← hV]; unfold cmpV; rw [Bool.eq_iff_iff]; simp only [decide_eq_true_eq]; repeat' split
    all_goals omega
  have e2 : decide (0 < V) = q := by
    rw [← hq, ← hV]; unfold cmpV; rw [Bool.eq_iff_iff]; simp only [decide_eq_true_eq]; repeat' split
    all_goals omega
  clear hp hq hV
  have C1 := Lib.hid (fMulDiv_at a b c n 0 ha.out hb.out hc.out h1 h2)
  have C2 := Lib.hid (fMulDivUp_at a b c (n + 1) 0 ha.out hb.out hc.out h3 h4)
  have C3 := Lib.hid (fRest_at a b c r 0 ha.out hb.out hc.out h5 (if_neg (by simpa using hz)))
  have HO := Lib.hid h8
  have HS := Lib.hid h9
  have WN := Lib.hid wn
  have WR := Lib.hid (show Word r from ⟨h6, by omega⟩)
  have n0 := wn.1
  clear h1 h2 h3 h4 h5 h8 h9 wn
  go_enter Try.func6, Try.ntmps6
  go_wp2_with fail
  refine (FixKnown_any _).mono ?_
  rintro e w1 ⟨rfl, hx1⟩
  have X1 := Lib.hid hx1
  clear hx1
  go_wp2_with fail
  refine (fWide_any a b ha.out hb.out _).mono ?_
  rintro e w2 ⟨rfl, hx2⟩
  have X2 := Lib.hid (X1.out.trans hx2)
  clear hx2 X1
  go_wp2_with fail
  refine (lgreat_any a b ha.out hb.out _).mono ?_
  rintro e w3 ⟨Aa, na, ca, la, rfl, ga, hx3⟩
  have GA3 := Lib.hid ga
  have X3 := Lib.hid (X2.out.trans hx3)
  clear ga hx3 X2
  go_wp2_with fail
  refine (kGreat_any (loN a b) (word_lo a b) _).mono ?_
  rintro e w4 ⟨Al, nl, cl, ll, rfl, gl, hx4⟩
  have GA4 := Lib.hid (GA3.out.ext hx4)
  have GL4 := Lib.hid gl
  have X4 := Lib.hid (X3.out.trans hx4)
  clear gl hx4 X3 GA3
  go_wp2_with fail
  refine (kGreat_any (hiN a b) (word_hi ha.out hb.out) _).mono ?_
  rintro e w5 ⟨Ah, nh, ch, lh, rfl, gh, hx5⟩
  have hxl5 := (Ext.refl w5).alloc (.cells #[.int .u64 0, .int .u64 0, .int .u64 0, .int .u64 0, .int .u64 1] 22)
  have hx5' := hx5.trans hxl5
  have GA5 := Lib.hid (GA4.out.ext hx5')
  have GL5 := Lib.hid (GL4.out.ext hx5')
  have GH5 := Lib.hid (gh.ext hxl5)
  have X5 := Lib.hid (X4.out.trans hx5')
  clear gh hx5 hx5' hxl5 X4 GA4 GL4
  go_wp2_with fail
  refine (kTimesGreat_any Ah _ nh 5 ch 5 lh [0, 0, 0, 0, 1] (hiN a b) 18446744073709551616 _ GH5.out (lit64 w5) (by have := GH5.out.short (k := 4) (by rw [pw4]; exact (word_hi ha.out hb.out).2); omega) (by decide)).mono ?_
  rintro e w6 ⟨At, nt, ct, lt, rfl, gt, hx6⟩
  have GA6 := Lib.hid (GA5.out.ext hx6)
  have GL6 := Lib.hid (GL5.out.ext hx6)
  have GT6 := Lib.hid gt
  have X6 := Lib.hid (X5.out.trans hx6)
  clear gt hx6 X5 GA5 GL5 GH5
  go_wp2_with fail
  refine (kSumGreat_any Al At nl nt cl ct ll lt _ _ _ GL6.out GT6.out (by have := GL6.out.short (k := 4) (by rw [pw4]; exact (word_lo a b).2); omega) (by have := GT6.out.short (k := 8) (by rw [pw8]; have := (word_hi ha.out hb.out).2; omega); omega)).mono ?_
  rintro e w7 ⟨Aw, nw, cw, lw, rfl, gw, hx7⟩
  have GA7 := Lib.hid (GA6.out.ext hx7)
  have GW7 := Lib.hid gw
  have X7 := Lib.hid (X6.out.trans hx7)
  clear gw hx7 X6 GA6 GL6 GT6
  go_wp2_with fail
  refine (lgreat_any c d hc.out hd.out _).mono ?_
  rintro e w8 ⟨Ao, no, co, lo, rfl, go, hx8⟩
  have GA8 := Lib.hid (GA7.out.ext hx8)
  have GW8 := Lib.hid (GW7.out.ext hx8)
  have GO8 := Lib.hid go
  have X8 := Lib.hid (X7.out.trans hx8)
  clear go hx8 X7 GA7 GW7
  go_wp2_with fail
  refine (fCmp_at a b c d V ha.out hb.out hc.out hd.out HV.out _).mono ?_
  rintro e w9 ⟨rfl, hx9⟩
  have GA9 := Lib.hid (GA8.out.ext hx9)
  have GW9 := Lib.hid (GW8.out.ext hx9)
  have GO9 := Lib.hid (GO8.out.ext hx9)
  have X9 := Lib.hid (X8.out.trans hx9)
  clear hx9 X8 GA8 GW8 GO8
  have same1 := kSameGreat_any Aa Aw na nw ca cw la lw _ _ w9 GA9.out GW9.out
  rw [decide_eq_true (show a * b = loN a b + hiN a b * 18446744073709551616 from by have := hi_lo a b; omega)] at same1
  have SM := Lib.hid same1
  clear same1
  go_wp2_with fail
  refine SM.out.mono ?_
  rintro e w10 ⟨rfl, hd10⟩
  have GA10 := Lib.hid (GA9.out.drw hd10)
  have GO10 := Lib.hid (GO9.out.drw hd10)
  have X10 := Lib.hid (X9.out.trans hd10.ext)
  clear hd10 X9 GA9 GW9 GO9 SM
  have less1 := kLessGreat_any Aa Ao na no ca co la lo _ _ w10 GA10.out GO10.out
  rw [HP.out] at less1
  have L1 := Lib.hid less1
  clear less1
  go_wp2_with fail
  refine L1.out.mono ?_
  rintro e w11 ⟨rfl, hd11⟩
  have GA11 := Lib.hid (GA10.out.drw hd11)
  have GO11 := Lib.hid (GO10.out.drw hd11)
  have X11 := Lib.hid (X10.out.trans hd11.ext)
  clear hd11 X10 GA10 GO10 L1
  have less2 := kLessGreat_any Ao Aa no na co ca lo la _ _ w11 GO11.out GA11.out
  rw [HQ.out] at less2
  have L2 := Lib.hid less2
  clear less2
  go_wp2_with fail
  refine L2.out.mono ?_
  rintro e w12 ⟨rfl, hd12⟩
  have GA12 := Lib.hid (GA11.out.drw hd12)
  have X12 := Lib.hid (X11.out.trans hd12.ext)
  clear hd12 X11 GA11 GO11 L2
  go_wp2_with fail
  refine (C1.out _).mono ?_
  rintro e w13 ⟨rfl, hx13⟩
  have GA13 := Lib.hid (GA12.out.ext hx13)
  have X13 := Lib.hid (X12.out.trans hx13)
  clear hx13 X12 GA12
  go_wp2_with fail
  refine (C2.out _).mono ?_
  rintro e w14 ⟨rfl, hx14⟩
  have GA14 := Lib.hid (GA13.out.ext hx14)
  have X14 := Lib.hid (X13.out.trans hx14)
  clear hx14 X13 GA13
  go_wp2_with fail
  refine (C3.out _).mono ?_
  rintro e w15 ⟨rfl, hx15⟩
  have GA15 := Lib.hid (GA14.out.ext hx15)
  have X15 := Lib.hid (X14.out.trans hx15)
  clear hx15 X14 GA14
  go_wp2_with fail
  refine (kGreat_any c hc.out _).mono ?_
  rintro e w16 ⟨Ac, nc, cc, lc, rfl, gc, hx16⟩
  have hxl := (Ext.refl w16).alloc (.cells #[.int .u64 0, .int .u64 0, .int .u64 0, .int .u64 0, .int .u64 1] 22)
  have hx16' := hx16.trans hxl
  have GA16 := Lib.hid (GA15.out.ext hx16')
  have GC16 := Lib.hid (gc.ext hxl)
  have X16 := Lib.hid (X15.out.trans hx16')
  clear gc hx16 hx16' hxl X15 GA15
  go_wp2_with fail
  refine (kTimesGreat_any Ac _ nc 5 cc 5 lc [0, 0, 0, 0, 1] c 18446744073709551616 _ GC16.out (lit64 w16) (by have := GC16.out.short (k := 4) (by rw [pw4]; exact hc.out.2); omega) (by decide)).mono ?_
  rintro e w17 ⟨As, ns, cs, ls, rfl, gs, hx17⟩
  have GA17 := Lib.hid (GA16.out.ext hx17)
  have GS17 := Lib.hid gs
  have X17 := Lib.hid (X16.out.trans hx17)
  clear gs hx17 X16 GA16 GC16
  have less3 := kLessGreat_any Aa As na ns ca cs la ls _ _ w17 GA17.out GS17.out
  rw [HO.out] at less3
  have L3 := Lib.hid less3
  clear less3
  go_wp2_with fail
  refine L3.out.mono ?_
  rintro e w18 ⟨rfl, hd18⟩
  have GA18 := Lib.hid (GA17.out.drw hd18)
  have X18 := Lib.hid (X17.out.trans hd18.ext)
  clear hd18 X17 GA17 GS17 L3
  go_wp2_with fail
  refine (lgreat_any _ c WN.out hc.out _).mono ?_
  rintro e w19 ⟨An, nn, cn, ln, rfl, gn, hx19⟩
  have GA19 := Lib.hid (GA18.out.ext hx19)
  have GN19 := Lib.hid gn
  have X19 := Lib.hid (X18.out.trans hx19)
  clear gn hx19 X18 GA18
  go_wp2_with fail
  refine (kGreat_any _ WR.out _).mono ?_
  rintro e w20 ⟨Ar, nr, cr, lr, rfl, gr, hx20⟩
  have GA20 := Lib.hid (GA19.out.ext hx20)
  have GN20 := Lib.hid (GN19.out.ext hx20)
  have GR20 := Lib.hid gr
  have X20 := Lib.hid (X19.out.trans hx20)
  clear gr hx20 X19 GA19 GN19
  go_wp2_with fail
  refine (kSumGreat_any An Ar nn nr cn cr ln lr _ _ _ GN20.out GR20.out (by have := GN20.out.short (k := 8) (by rw [pw8]; have := (prod_bounds WN.out hc.out).2; omega); omega) (by have := GR20.out.short (k := 4) (by rw [pw4]; exact WR.out.2); omega)).mono ?_
  rintro e w21 ⟨Az, nz, cz, lz, rfl, gz, hx21⟩
  have GA21 := Lib.hid (GA20.out.ext hx21)
  have GZ21 := Lib.hid gz
  have X21 := Lib.hid (X20.out.trans hx21)
  clear gz hx21 X20 GA20 GN20 GR20
  have same2 := kSameGreat_any Aa Az na nz ca cz la lz _ _ w21 GA21.out GZ21.out
  rw [decide_eq_true HS.out] at same2
  have SM := Lib.hid same2
  clear same2
  go_wp2_with fail
  refine SM.out.mono ?_
  rintro e w22 ⟨rfl, hd22⟩
  have X22 := Lib.hid (X21.out.trans hd22.ext)
  clear hd22 X21 GA21 GZ21 SM
  go_wp2_with fail
  go_ret
  exact ⟨rfl, X22.out⟩
set_option maxRecDepth 100000 in
set_option maxHeartbeats 2000000 in
theorem FixWhole_ok3 (a b c d : Int) (fa : Word a) (fb : Word b) (fc : Word c) (fd : Word d) (r : Int) (hz : (c == 0) = false) (h1 : mdN a b c = 18446744073709551615) (h2 : mdE a b c = 0) (h3 : muN a b c = 0) (h4 : muE a b c = 12) (h5 : reN a b c = r) (h6 : 0 ≤ (r : Int)) (h7 : r < c) (h8 : decide (a * b < c * 18446744073709551616) = true) (h9 : a * b = 18446744073709551615 * c + r) (wn : Word 18446744073709551615) (r0 : 0 < r) (w : World) :
    Calls Try.prog 6 #[.int .u64 a, .int .u64 b, .int .u64 c, .int .u64 d] w fun r w' => r = .returned (.bool true) ∧ Ext w w' := by
  have ha := Lib.hid fa
  have hb := Lib.hid fb
  have hc := Lib.hid fc
  have hd := Lib.hid fd
  have c0 := fc.1
  have c1 := fc.2
  clear fa fb fc fd
  obtain ⟨V, hV⟩ : ∃ V, cmpV a b c d = V := ⟨_, rfl⟩
  have HV := Lib.hid hV
  obtain ⟨p, hp⟩ : ∃ p, decide (a * b < c * d) = p := ⟨_, rfl⟩
  obtain ⟨q, hq⟩ : ∃ q, decide (c * d < a * b) = q := ⟨_, rfl⟩
  have HP := Lib.hid hp
  have HQ := Lib.hid hq
  have e1 : decide (V < 0) = p := by
    rw [← hp, ← hV]; unfold cmpV; rw [Bool.eq_iff_iff]; simp only [decide_eq_true_eq]; repeat' split
    all_goals omega
  have e2 : decide (0 < V) = q := by
    rw [← hq, ← hV]; unfold cmpV; rw [Bool.eq_iff_iff]; simp only [decide_eq_true_eq]; repeat' split
    all_goals omega
  clear hp hq hV
  have C1 := Lib.hid (fMulDiv_at a b c 18446744073709551615 0 ha.out hb.out hc.out h1 h2)
  have C2 := Lib.hid (fMulDivUp_at a b c 0 12 ha.out hb.out hc.out h3 h4)
  have C3 := Lib.hid (fRest_at a b c r 0 ha.out hb.out hc.out h5 (if_neg (by simpa using hz)))
  have HO := Lib.hid h8
  have HS := Lib.hid h9
  have WN := Lib.hid wn
  have WR := Lib.hid (show Word r from ⟨h6, by omega⟩)
  have n0 := wn.1
  clear h1 h2 h3 h4 h5 h8 h9 wn
  go_enter Try.func6, Try.ntmps6
  go_wp2_with fail
  refine (FixKnown_any _).mono ?_
  rintro e w1 ⟨rfl, hx1⟩
  have X1 := Lib.hid hx1
  clear hx1
  go_wp2_with fail
  refine (fWide_any a b ha.out hb.out _).mono ?_
  rintro e w2 ⟨rfl, hx2⟩
  have X2 := Lib.hid (X1.out.trans hx2)
  clear hx2 X1
  go_wp2_with fail
  refine (lgreat_any a b ha.out hb.out _).mono ?_
  rintro e w3 ⟨Aa, na, ca, la, rfl, ga, hx3⟩
  have GA3 := Lib.hid ga
  have X3 := Lib.hid (X2.out.trans hx3)
  clear ga hx3 X2
  go_wp2_with fail
  refine (kGreat_any (loN a b) (word_lo a b) _).mono ?_
  rintro e w4 ⟨Al, nl, cl, ll, rfl, gl, hx4⟩
  have GA4 := Lib.hid (GA3.out.ext hx4)
  have GL4 := Lib.hid gl
  have X4 := Lib.hid (X3.out.trans hx4)
  clear gl hx4 X3 GA3
  go_wp2_with fail
  refine (kGreat_any (hiN a b) (word_hi ha.out hb.out) _).mono ?_
  rintro e w5 ⟨Ah, nh, ch, lh, rfl, gh, hx5⟩
  have hxl5 := (Ext.refl w5).alloc (.cells #[.int .u64 0, .int .u64 0, .int .u64 0, .int .u64 0, .int .u64 1] 22)
  have hx5' := hx5.trans hxl5
  have GA5 := Lib.hid (GA4.out.ext hx5')
  have GL5 := Lib.hid (GL4.out.ext hx5')
  have GH5 := Lib.hid (gh.ext hxl5)
  have X5 := Lib.hid (X4.out.trans hx5')
  clear gh hx5 hx5' hxl5 X4 GA4 GL4
  go_wp2_with fail
  refine (kTimesGreat_any Ah _ nh 5 ch 5 lh [0, 0, 0, 0, 1] (hiN a b) 18446744073709551616 _ GH5.out (lit64 w5) (by have := GH5.out.short (k := 4) (by rw [pw4]; exact (word_hi ha.out hb.out).2); omega) (by decide)).mono ?_
  rintro e w6 ⟨At, nt, ct, lt, rfl, gt, hx6⟩
  have GA6 := Lib.hid (GA5.out.ext hx6)
  have GL6 := Lib.hid (GL5.out.ext hx6)
  have GT6 := Lib.hid gt
  have X6 := Lib.hid (X5.out.trans hx6)
  clear gt hx6 X5 GA5 GL5 GH5
  go_wp2_with fail
  refine (kSumGreat_any Al At nl nt cl ct ll lt _ _ _ GL6.out GT6.out (by have := GL6.out.short (k := 4) (by rw [pw4]; exact (word_lo a b).2); omega) (by have := GT6.out.short (k := 8) (by rw [pw8]; have := (word_hi ha.out hb.out).2; omega); omega)).mono ?_
  rintro e w7 ⟨Aw, nw, cw, lw, rfl, gw, hx7⟩
  have GA7 := Lib.hid (GA6.out.ext hx7)
  have GW7 := Lib.hid gw
  have X7 := Lib.hid (X6.out.trans hx7)
  clear gw hx7 X6 GA6 GL6 GT6
  go_wp2_with fail
  refine (lgreat_any c d hc.out hd.out _).mono ?_
  rintro e w8 ⟨Ao, no, co, lo, rfl, go, hx8⟩
  have GA8 := Lib.hid (GA7.out.ext hx8)
  have GW8 := Lib.hid (GW7.out.ext hx8)
  have GO8 := Lib.hid go
  have X8 := Lib.hid (X7.out.trans hx8)
  clear go hx8 X7 GA7 GW7
  go_wp2_with fail
  refine (fCmp_at a b c d V ha.out hb.out hc.out hd.out HV.out _).mono ?_
  rintro e w9 ⟨rfl, hx9⟩
  have GA9 := Lib.hid (GA8.out.ext hx9)
  have GW9 := Lib.hid (GW8.out.ext hx9)
  have GO9 := Lib.hid (GO8.out.ext hx9)
  have X9 := Lib.hid (X8.out.trans hx9)
  clear hx9 X8 GA8 GW8 GO8
  have same1 := kSameGreat_any Aa Aw na nw ca cw la lw _ _ w9 GA9.out GW9.out
  rw [decide_eq_true (show a * b = loN a b + hiN a b * 18446744073709551616 from by have := hi_lo a b; omega)] at same1
  have SM := Lib.hid same1
  clear same1
  go_wp2_with fail
  refine SM.out.mono ?_
  rintro e w10 ⟨rfl, hd10⟩
  have GA10 := Lib.hid (GA9.out.drw hd10)
  have GO10 := Lib.hid (GO9.out.drw hd10)
  have X10 := Lib.hid (X9.out.trans hd10.ext)
  clear hd10 X9 GA9 GW9 GO9 SM
  have less1 := kLessGreat_any Aa Ao na no ca co la lo _ _ w10 GA10.out GO10.out
  rw [HP.out] at less1
  have L1 := Lib.hid less1
  clear less1
  go_wp2_with fail
  refine L1.out.mono ?_
  rintro e w11 ⟨rfl, hd11⟩
  have GA11 := Lib.hid (GA10.out.drw hd11)
  have GO11 := Lib.hid (GO10.out.drw hd11)
  have X11 := Lib.hid (X10.out.trans hd11.ext)
  clear hd11 X10 GA10 GO10 L1
  have less2 := kLessGreat_any Ao Aa no na co ca lo la _ _ w11 GO11.out GA11.out
  rw [HQ.out] at less2
  have L2 := Lib.hid less2
  clear less2
  go_wp2_with fail
  refine L2.out.mono ?_
  rintro e w12 ⟨rfl, hd12⟩
  have GA12 := Lib.hid (GA11.out.drw hd12)
  have X12 := Lib.hid (X11.out.trans hd12.ext)
  clear hd12 X11 GA11 GO11 L2
  go_wp2_with fail
  refine (C1.out _).mono ?_
  rintro e w13 ⟨rfl, hx13⟩
  have GA13 := Lib.hid (GA12.out.ext hx13)
  have X13 := Lib.hid (X12.out.trans hx13)
  clear hx13 X12 GA12
  go_wp2_with fail
  refine (C2.out _).mono ?_
  rintro e w14 ⟨rfl, hx14⟩
  have GA14 := Lib.hid (GA13.out.ext hx14)
  have X14 := Lib.hid (X13.out.trans hx14)
  clear hx14 X13 GA13
  go_wp2_with fail
  refine (C3.out _).mono ?_
  rintro e w15 ⟨rfl, hx15⟩
  have GA15 := Lib.hid (GA14.out.ext hx15)
  have X15 := Lib.hid (X14.out.trans hx15)
  clear hx15 X14 GA14
  go_wp2_with fail
  refine (kGreat_any c hc.out _).mono ?_
  rintro e w16 ⟨Ac, nc, cc, lc, rfl, gc, hx16⟩
  have hxl := (Ext.refl w16).alloc (.cells #[.int .u64 0, .int .u64 0, .int .u64 0, .int .u64 0, .int .u64 1] 22)
  have hx16' := hx16.trans hxl
  have GA16 := Lib.hid (GA15.out.ext hx16')
  have GC16 := Lib.hid (gc.ext hxl)
  have X16 := Lib.hid (X15.out.trans hx16')
  clear gc hx16 hx16' hxl X15 GA15
  go_wp2_with fail
  refine (kTimesGreat_any Ac _ nc 5 cc 5 lc [0, 0, 0, 0, 1] c 18446744073709551616 _ GC16.out (lit64 w16) (by have := GC16.out.short (k := 4) (by rw [pw4]; exact hc.out.2); omega) (by decide)).mono ?_
  rintro e w17 ⟨As, ns, cs, ls, rfl, gs, hx17⟩
  have GA17 := Lib.hid (GA16.out.ext hx17)
  have GS17 := Lib.hid gs
  have X17 := Lib.hid (X16.out.trans hx17)
  clear gs hx17 X16 GA16 GC16
  have less3 := kLessGreat_any Aa As na ns ca cs la ls _ _ w17 GA17.out GS17.out
  rw [HO.out] at less3
  have L3 := Lib.hid less3
  clear less3
  go_wp2_with fail
  refine L3.out.mono ?_
  rintro e w18 ⟨rfl, hd18⟩
  have GA18 := Lib.hid (GA17.out.drw hd18)
  have X18 := Lib.hid (X17.out.trans hd18.ext)
  clear hd18 X17 GA17 GS17 L3
  go_wp2_with fail
  refine (lgreat_any _ c WN.out hc.out _).mono ?_
  rintro e w19 ⟨An, nn, cn, ln, rfl, gn, hx19⟩
  have GA19 := Lib.hid (GA18.out.ext hx19)
  have GN19 := Lib.hid gn
  have X19 := Lib.hid (X18.out.trans hx19)
  clear gn hx19 X18 GA18
  go_wp2_with fail
  refine (kGreat_any _ WR.out _).mono ?_
  rintro e w20 ⟨Ar, nr, cr, lr, rfl, gr, hx20⟩
  have GA20 := Lib.hid (GA19.out.ext hx20)
  have GN20 := Lib.hid (GN19.out.ext hx20)
  have GR20 := Lib.hid gr
  have X20 := Lib.hid (X19.out.trans hx20)
  clear gr hx20 X19 GA19 GN19
  go_wp2_with fail
  refine (kSumGreat_any An Ar nn nr cn cr ln lr _ _ _ GN20.out GR20.out (by have := GN20.out.short (k := 8) (by rw [pw8]; have := (prod_bounds WN.out hc.out).2; omega); omega) (by have := GR20.out.short (k := 4) (by rw [pw4]; exact WR.out.2); omega)).mono ?_
  rintro e w21 ⟨Az, nz, cz, lz, rfl, gz, hx21⟩
  have GA21 := Lib.hid (GA20.out.ext hx21)
  have GZ21 := Lib.hid gz
  have X21 := Lib.hid (X20.out.trans hx21)
  clear gz hx21 X20 GA20 GN20 GR20
  have same2 := kSameGreat_any Aa Az na nz ca cz la lz _ _ w21 GA21.out GZ21.out
  rw [decide_eq_true HS.out] at same2
  have SM := Lib.hid same2
  clear same2
  go_wp2_with fail
  refine SM.out.mono ?_
  rintro e w22 ⟨rfl, hd22⟩
  have X22 := Lib.hid (X21.out.trans hd22.ext)
  clear hd22 X21 GA21 GZ21 SM
  go_wp2_with fail
  go_ret
  exact ⟨rfl, X22.out⟩
theorem FixWhole_any (a : Int) (fa : Fits .u64 a) (b : Int) (fb : Fits .u64 b) (c : Int) (fc : Fits .u64 c) (d : Int) (fd : Fits .u64 d) (w : World) :
    Calls Try.prog 6 #[.int .u64 a, .int .u64 b, .int .u64 c, .int .u64 d] w fun r w' => r = .returned (.bool true) ∧ Ext w w' := by
  have ha : Word a := fa.u64
  have hb : Word b := fb.u64
  have hc : Word c := fc.u64
  have hd : Word d := fd.u64
  by_cases hz : c = 0
  · exact FixWhole_zero a b c d ha hb hc hd (by simpa using hz) w
  · have c0 : 0 < c := by have := hc.1; omega
    have hz' : (c == 0) = false := by simpa using hz
    have hdm := Int.mul_ediv_add_emod (a * b) c
    have r0 := Int.emod_nonneg (a * b) hz
    have r1 := Int.emod_lt_of_pos (a * b) c0
    have q0 : 0 ≤ a * b / c := Int.ediv_nonneg (prod_bounds ha hb).1 hc.1
    have hre : reN a b c = a * b % c := if_neg hz
    have hcm : c * (a * b / c) = a * b / c * c := Int.mul_comm _ _
    by_cases ho : a * b / c < 18446744073709551616
    · have h8 : decide (a * b < c * 18446744073709551616) = true := by
        have : c * (a * b / c + 1) ≤ c * 18446744073709551616 := Int.mul_le_mul_of_nonneg_left (by omega) (by omega)
        rw [Int.mul_add] at this
        simp only [decide_eq_true_eq]
        omega
      have m1 : mdN a b c = a * b / c := by unfold mdN; rw [if_neg hz, if_pos ho]
      have m2 : mdE a b c = 0 := by unfold mdE; rw [if_neg hz, if_pos ho]
      by_cases hr : a * b % c = 0
      · have e : upQ a b c = a * b / c := if_pos hr
        refine FixWhole_ok1 a b c d ha hb hc hd (a * b / c) hz' m1 m2 ?_ ?_ (hre.trans hr) (by decide) c0 h8 (by omega) ⟨q0, ho⟩ w
        · unfold muN; rw [if_neg hz, e, if_pos ho]
        · unfold muE; rw [if_neg hz, e, if_pos ho]
      · have e : upQ a b c = a * b / c + 1 := if_neg hr
        by_cases hm : a * b / c = 18446744073709551615
        · refine FixWhole_ok3 a b c d ha hb hc hd _ hz' (m1.trans hm) m2 ?_ ?_ hre r0 r1 h8 (by rw [hm] at hcm hdm; omega) (by rw [← hm]; exact ⟨q0, ho⟩) (by omega) w
          · unfold muN; rw [if_neg hz, e, if_neg (by omega)]
          · unfold muE; rw [if_neg hz, e, if_neg (by omega)]
        · refine FixWhole_ok2 a b c d ha hb hc hd (a * b / c) _ hz' m1 m2 ?_ ?_ hre r0 r1 h8 (by omega) ⟨q0, ho⟩ (by omega) (by omega) w
          · unfold muN; rw [if_neg hz, e, if_pos (by omega)]
          · unfold muE; rw [if_neg hz, e, if_pos (by omega)]
    · have h8 : decide (a * b < c * 18446744073709551616) = false := by
        have : c * 18446744073709551616 ≤ c * (a * b / c) := Int.mul_le_mul_of_nonneg_left (by omega) (by omega)
        simp only [decide_eq_false_iff_not]
        omega
      have hu : ¬ upQ a b c < 18446744073709551616 := by unfold upQ; split <;> omega
      refine FixWhole_over a b c d ha hb hc hd _ hz' ?_ ?_ ?_ ?_ hre r0 r1 h8 w
      · unfold mdN; rw [if_neg hz, if_neg ho]
      · unfold mdE; rw [if_neg hz, if_neg ho]
      · unfold muN; rw [if_neg hz, if_neg hu]
      · unfold muE; rw [if_neg hz, if_neg hu]
end Go.Proofs.Ytdckdefjhijihaa
