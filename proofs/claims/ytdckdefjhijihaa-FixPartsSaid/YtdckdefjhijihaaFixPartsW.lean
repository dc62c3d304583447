/- What is proved: distraintlaw01.FixParts returns true for every four words; nothing that was there is written. Conditions: none. -/
import Derived.Test.YtdckdefjhijihaaFixAwake
set_option linter.unusedVariables false
set_option linter.unusedSimpArgs false
namespace Go.Proofs.Ytdckdefjhijihaa
open Go.RowKit

theorem Fits.word {x : Int} (h : Fits .u64 x) : Word x := h.u64

set_option maxRecDepth 100000 in
set_option maxHeartbeats 1000000 in
theorem FixParts_any (a : Int) (fa : Fits .u64 a) (b : Int) (fb : Fits .u64 b) (c : Int) (fc : Fits .u64 c) (d : Int) (fd : Fits .u64 d) (w : World) :
    Calls Try.prog 4 #[.int .u64 a, .int .u64 b, .int .u64 c, .int .u64 d] w fun r w' => r = .returned (.bool true) ∧ Ext w w' := by
  have ha := Lib.hid fa.word
  have hb := Lib.hid fb.word
  have hc := Lib.hid fc.word
  have hd := Lib.hid fd.word
  clear fa fb fc fd
  go_enter Try.func4, Try.ntmps4
  go_wp2_with fail
  refine (fMulDiv_any a b c ha.out hb.out hc.out _).mono ?_
  rintro e w1 ⟨rfl, hx1⟩
  go_wp2_with fail
  refine (rMulDiv_any a b c ha.out hb.out hc.out _).mono ?_
  rintro e w2 ⟨rfl, rfl⟩
  go_wp2_with fail
  refine (lsame_true _ _ _).mono ?_
  rintro e w2 ⟨rfl, rfl⟩
  go_wp2_with fail
  refine (fMulDivUp_any a b c ha.out hb.out hc.out _).mono ?_
  rintro e w2 ⟨rfl, hx2⟩
  go_wp2_with fail
  refine (rMulDivUp_any a b c ha.out hb.out hc.out _).mono ?_
  rintro e w3 ⟨rfl, rfl⟩
  go_wp2_with fail
  refine (lsame_true _ _ _).mono ?_
  rintro e w3 ⟨rfl, rfl⟩
  go_wp2_with fail
  refine (fRest_any a b c ha.out hb.out hc.out _).mono ?_
  rintro e w3 ⟨rfl, hx3⟩
  go_wp2_with fail
  refine (rRest_any a b c ha.out hb.out hc.out _).mono ?_
  rintro e w4 ⟨rfl, rfl⟩
  go_wp2_with fail
  refine (lsame_true _ _ _).mono ?_
  rintro e w4 ⟨rfl, rfl⟩
  go_wp2_with fail
  refine (fCapped_any d a b c hd.out ha.out hb.out hc.out _).mono ?_
  rintro e w4 ⟨rfl, hx4⟩
  go_wp2_with fail
  refine (rCapped_any d a b c hd.out ha.out hb.out hc.out _).mono ?_
  rintro e w5 ⟨rfl, rfl⟩
  go_wp2_with fail
  refine (lsame_true _ _ _).mono ?_
  rintro e w5 ⟨rfl, rfl⟩
  go_wp2_with fail
  refine (fPart_any a b ha.out hb.out _).mono ?_
  rintro e w5 ⟨rfl, hx5⟩
  go_wp2_with fail
  refine (rPart_any a b ha.out hb.out _).mono ?_
  rintro e w6 ⟨rfl, rfl⟩
  go_wp2_with fail
  refine (lsame_true _ _ _).mono ?_
  rintro e w6 ⟨rfl, rfl⟩
  go_wp2_with fail
  refine (fCmp_any a b c d ha.out hb.out hc.out hd.out _).mono ?_
  rintro e w6 ⟨rfl, hx6⟩
  go_wp2_with fail
  refine (rCmp_any a b c d ha.out hb.out hc.out hd.out _).mono ?_
  rintro e w7 ⟨rfl, hx7⟩
  go_wp2_with fail
  refine (awake01_any _).mono ?_
  rintro e w8 ⟨rfl, hx8⟩
  go_wp2_with fail
  go_ret
  exact ⟨rfl, (by repeat (first | assumption | exact Ext.refl _ | refine Ext.drew ?_ | refine Ext.drewN ?_ _ | refine Ext.alloc ?_ _ | refine Ext.setCell ?_ (by first | omega | (simp; done) | (simp; omega)) _ | refine Ext.trans ?_ (by assumption)))⟩
end Go.Proofs.Ytdckdefjhijihaa
