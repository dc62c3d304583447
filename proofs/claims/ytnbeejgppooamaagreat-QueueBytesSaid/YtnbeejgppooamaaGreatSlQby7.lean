/- What the law Qby rests on, part 7 of 8: Q14. Conditions stand in each lemma. -/
import Derived.WalkKit
import Derived.Deep.QuietTactic
import Derived.Deep.Draws
import Derived.Laws.OwnMore
import Derived.Laws.AppendOwn
import Derived.OwnWalk
import Derived.RangeFuncBox
import Derived.RangeFuncLeaves
import Derived.Shelf.Abstract
import Derived.OwnWalkIn
import Derived.TacticsInMore
import Derived.LoopNIn
import Derived.LoopIn
import Derived.Maps.AppendAt
import Derived.Test.YtnbeejgppooamaaGreatRows
import Derived.Lib.Hide
import Derived.Deep.Onto
import Derived.ProofKit
import Derived.ChangeOld
import Derived.OpenShut
import Derived.Deep.Slices
import Derived.BigQuiet
import Derived.IntWalk
import Derived.Lib.SliceRun
import Derived.Deep.LoopGhost
import Derived.WalkSpells
import Derived.WalkLawsBesides
import Derived.Deep.RegionHeld3
import Derived.Lib.SmallJoins
import Derived.ArgAppend
import Derived.Test.YtnbeejgppooamaaGreatShelf
import Derived.Test.YtnbeejgppooamaaGreatDivNorm
import Derived.Deep.DeepCutAuto
import Derived.Deep.CutBlock
import Derived.Shelf.Spec.BitsCarry
import Derived.Test.YtnbeejgppooamaaGreatFixRefMath
import Derived.Test.YtnbeejgppooamaaGreatFixDivideMath
import Derived.WalkMore
import Derived.Laws.StructEq
import Derived.Laws.BytesArg
import Derived.Test.YtnbeejgppooamaaGreatSlQby6
set_option linter.unusedVariables false
set_option linter.unusedSimpArgs false
namespace Go.Proofs.YtnbeejgppooamaaGreat
section
open Go.RowKit Go.ChangeShapes Go.WideShapes Go.Deep Go.Joins
set_option maxRecDepth 100000 in
theorem qfaulty_any (g k : Nat) (L : List Nat) (flt : Option (Int × Int)) (w : World) (h : Rd w g L k flt) (hL : L.length < 1099511627776) :
    Calls Tryz.prog 36 #[.pointer (some ⟨g, 0, none⟩)] w fun r w' => r = .returned (.bool (fltB flt k L.length)) ∧ Ext w w' := by
  have C1 := Lib.hid (cLeft_any g k L flt w h hL)
  have H := Lib.hid h
  have HL := Lib.hid hL
  unfold fltB
  obtain ⟨l, hl⟩ : ∃ l, leftF flt k L.length = l := ⟨_, rfl⟩
  obtain ⟨e, he⟩ : ∃ e, (endF flt k L.length).1 = e := ⟨_, rfl⟩
  have C2 := Lib.hid (fun w h => cEnd_any g k L flt w h hL)
  rw [hl] at C1
  rw [he] at C2
  rw [hl, he]
  generalize (endF flt k L.length).2 = e2 at C2
  clear h hL hl he
  have hfd : ∀ w : World, (Instr.field 32 (.agg #[.int .i64 e, .int .i64 e2]) 0).run Tryz.prog w = .ok (.int .i64 e) w := fun _ => by kernel_rfl
  obtain ⟨p, hp⟩ : ∃ p, (l == 0) = p := ⟨_, rfl⟩
  rw [hp]
  cases p
  · go_enter Tryz.func36, Tryz.ntmps36
    go_wp2_with fail
    refine C1.out.mono ?_
    rintro r w1 ⟨rfl, hx1⟩
    have X1 := Lib.hid hx1
    clear hx1
    go_wp2_with fail
    go_ret
    exact ⟨rfl, X1.out⟩
  · go_enter Tryz.func36, Tryz.ntmps36
    go_wp2_with fail
    refine C1.out.mono ?_
    rintro r w1 ⟨rfl, hx1⟩
    have X1 := Lib.hid hx1
    have H1 := Lib.hid (H.out.keep hx1)
    clear hx1 H C1
    go_wp2_with fail
    refine (C2.out _ H1.out).mono ?_
    rintro r w2 ⟨rfl, hx2⟩
    have X2 := Lib.hid (X1.out.trans hx2)
    clear hx2 X1 H1 C2
    go_wp2_with fail
    go_ret
    exact ⟨by simp [bne], X2.out⟩
theorem qfaulty_e (g k : Nat) (L : List Nat) (flt : Option (Int × Int)) (b : Bool) (w : World) (h : Rd w g L k flt) (hL : L.length < 1099511627776) (hb : b = fltB flt k L.length) :
    Calls Tryz.prog 36 #[.pointer (some ⟨g, 0, none⟩)] w fun r w' => r = .returned (.bool b) ∧ Ext w w' := by rw [hb]; exact qfaulty_any g k L flt w h hL
theorem fltQ_none {k n : Nat} : fltB none k n = false := fltB_none_ok
theorem fltQ_some {k n : Nat} {x : Int × Int} (h : x.1 ≠ 0) : fltB (some x) k n = true := by
  unfold fltB leftF endF
  simpa using h
theorem tTake_e (g k k' : Nat) (L : List Nat) (f f' : Option (Int × Int)) (a b c d : Int) (hL : L.length < 1099511627776) (ha : a = if tkZ L (k, f) = true then 0 else tkA L (k, f)) (hb : b = if tkZ L (k, f) = true then 0 else tkB L (k, f)) (hc : c = if tkZ L (k, f) = true then 0 else tkC L (k, f) - 1) (hd : d = if tkZ L (k, f) = true then 0 else tkD L (k, f)) (hk : k' = (tk4 L (k, f)).1) (hf : f' = tkF L (k, f)) (w : World) (h : Rd w g L k f) :
    Calls Tryz.prog 34 #[.pointer (some ⟨g, 0, none⟩)] w fun r w' => r = .returned (.agg #[.int .i64 a, .int .i64 b, .int .i64 c, .int .i64 d]) ∧ Rd w' g L k' f' ∧ But (· = g) w w' := by
  subst ha; subst hb; subst hc; subst hd; subst hk; subst hf
  exact tTake_any g k L f hL w h
theorem rTake12_e (g k k' : Nat) (L : List Nat) (f f' : Option (Int × Int)) (a b c d : Int) (hL : L.length < 1099511627776) (ha : a = if tkZ L (k, f) = true then 0 else tkA L (k, f)) (hb : b = if tkZ L (k, f) = true then 0 else tkB L (k, f)) (hc : c = if tkZ L (k, f) = true then 0 else tkC L (k, f) - 1) (hd : d = if tkZ L (k, f) = true then 0 else tkD L (k, f)) (hk : k' = (tk4 L (k, f)).1) (hf : f' = tkF L (k, f)) (w : World) (h : RRd w g L k f) :
    Calls Tryz.prog 44 #[.pointer (some ⟨g, 0, none⟩)] w fun r w' => r = .returned (.agg #[.int .i64 a, .int .i64 b, .int .i64 c, .int .i64 d]) ∧ RRd w' g L k' f' ∧ But (· = g) w w' := by
  subst ha; subst hb; subst hc; subst hd; subst hk; subst hf
  exact rTake12_any g k L f hL w h
theorem cU_Te (q g k k' : Nat) (L : List Nat) (flt flt' : Option (Int × Int)) (v : Int) (hL : L.length < 1099511627776) (hv : v = ruV L k flt) (hk : k' = ruK L k flt) (hf : flt' = ruF L k flt) (w : World) (h : RdT q w g L k flt) :
    Calls Tryz.prog 35 #[.pointer (some ⟨g, 0, none⟩)] w fun r w' => r = .returned (.int .u64 v) ∧ RdT q w' g L k' flt' ∧ But (· = g) w w' := by
  subst hv hk hf
  exact (cU_any g k L flt hL w h.1).mono fun r w' hh => ⟨hh.1, h.to hh.2.1 hh.2.2, hh.2.2⟩
theorem cEnd_q (g k : Nat) (L : List Nat) (flt : Option (Int × Int)) (e a : Int) (w : World) (h : Rd w g L k flt) (hL : L.length < 1099511627776) (he : (e, a) = endF flt k L.length) :
    Calls Tryz.prog 39 #[.pointer (some ⟨g, 0, none⟩)] w fun r w' => r = .returned (.agg #[.int .i64 e, .int .i64 a]) ∧ Ext w w' := by
  have h := cEnd_any g k L flt w h hL
  rw [← he] at h
  exact h
theorem rEnd_q (g k : Nat) (L : List Nat) (flt : Option (Int × Int)) (e a : Int) (w : World) (h : RRd w g L k flt) (hL : L.length < 1099511627776) (he : (e, a) = endF flt k L.length) :
    Calls Tryz.prog 49 #[.pointer (some ⟨g, 0, none⟩)] w fun r w' => r = .returned (.agg #[.int .i64 e, .int .i64 a]) ∧ Ext w w' := by
  have h := rEnd_any g k L flt w h hL
  rw [← he] at h
  exact h
theorem qsum_e (A : Option Addr) (n c : Nat) (l : List (Int × Int × Int × Int × Int × Int × Int × Int)) (s : Int) (w : World) (h : Sl w 8 A n c (l.flatMap entC)) (hn : n ≤ 100000) (hf : ∀ x ∈ l, FitsQ x) (hs : s = sumP l) :
    Calls Tryz.prog 40 #[.slice A n c] w fun e w' => e = .returned (.int .u64 s) ∧ Ext w w' := by rw [hs]; exact qsum_any A n c l w h hn hf
theorem sumP_le {l : List (Int × Int × Int × Int × Int × Int × Int × Int)} (h : sumP l ≤ 4611686018427387904) : totB l ≤ 4611686018427387904 := by
  unfold sumP at h
  split at h
  · assumption
  · omega
theorem sumP_lt {l : List (Int × Int × Int × Int × Int × Int × Int × Int)} (h : 4611686018427387904 < sumP l) : 4611686018427387904 < totB l := by
  unfold sumP at h
  split at h <;> omega
theorem ruF_s (L : List Nat) (k : Nat) (x : Int × Int) : ruF L k (some x) = some x := by unfold ruF; rw [if_neg (by simp)]
theorem rnF_s (L : List Nat) (k : Nat) (x : Int × Int) (lo hi : Int) : rnF L k (some x) lo hi = some x := by unfold rnF; rw [if_neg (by simp)]
theorem tk4_s (L : List Nat) (k : Nat) (x : Int × Int) : (tk4 L (k, some x)).2 = some x := by
  have e : ∀ (s : Nat × Option (Int × Int)) lo hi, s.2 = some x → (tkS L s lo hi).2 = some x := fun s lo hi h => by
    obtain ⟨k, f⟩ := s
    subst h
    exact rnF_s L k x lo hi
  exact e _ _ _ (e _ _ _ (e _ _ _ (e _ _ _ rfl)))
theorem tkF_s (L : List Nat) (k : Nat) (x : Int × Int) : tkF L (k, some x) = some x := by
  unfold tkF
  rw [tk4_s]
  split
  · rfl
  · rfl
theorem ru_w (L : List Nat) (k : Nat) (f : Option (Int × Int)) : Word (ruV L k f) := by
  unfold ruV
  split
  · have hn := numGo_lt (L.drop k) 0 0 (by decide) (by decide)
    exact ⟨by omega, by omega⟩
  · exact ⟨by omega, by omega⟩
theorem ruq_nz {L : List Nat} {k : Nat} {f : Option (Int × Int)} (h : FltNz f) : FltNz (ruF L k f) := by
  unfold ruF
  split
  · exact FltNz.none.fail _ _
  · exact h
theorem tkF_nz {L : List Nat} {k : Nat} {f : Option (Int × Int)} (h : FltNz f) : FltNz (tkF L (k, f)) := by
  have h4 : FltNz (tk4 L (k, f)).2 := tkS_nz (tkS_nz (tkS_nz (tkS_nz h)))
  unfold tkF
  split
  · exact h4
  · exact h4.fail _ _
/-- an entry's numbers read, whatever they are -/
def qRdX (L : List Nat) (k : Nat) (f : Option (Int × Int)) : Nat × Option (Int × Int) × (Int × Int × Int × Int × Int × Int × Int × Int) :=
  let k1 := rnK L k f 0 63; let f1 := rnF L k f 0 63
  let k2 := (tk4 L (k1, f1)).1; let f2 := tkF L (k1, f1)
  let k3 := rnK L k2 f2 1 4294967296; let f3 := rnF L k2 f2 1 4294967296
  let k4 := ruK L k3 f3; let f4 := ruF L k3 f3
  (ruK L k4 f4, ruF L k4 f4, (rnV L k f 0 63, if tkZ L (k1, f1) = true then 0 else tkA L (k1, f1), if tkZ L (k1, f1) = true then 0 else tkB L (k1, f1), if tkZ L (k1, f1) = true then 0 else tkC L (k1, f1) - 1, if tkZ L (k1, f1) = true then 0 else tkD L (k1, f1), rnV L k2 f2 1 4294967296, ruV L k3 f3, ruV L k4 f4))
theorem qRdX_eq {L : List Nat} {k k1 k2 k3 k4 k5 : Nat} {f f1 f2 f3 f4 f5 : Option (Int × Int)} {xo xv xs xp xf xc xi xb : Int}
    (a1 : xo = rnV L k f 0 63) (a2 : k1 = rnK L k f 0 63) (a3 : f1 = rnF L k f 0 63) (b1 : xv = if tkZ L (k1, f1) = true then 0 else tkA L (k1, f1)) (b2 : xs = if tkZ L (k1, f1) = true then 0 else tkB L (k1, f1)) (b3 : xp = if tkZ L (k1, f1) = true then 0 else tkC L (k1, f1) - 1) (b4 : xf = if tkZ L (k1, f1) = true then 0 else tkD L (k1, f1)) (b5 : k2 = (tk4 L (k1, f1)).1) (b6 : f2 = tkF L (k1, f1))
    (c1 : xc = rnV L k2 f2 1 4294967296) (c2 : k3 = rnK L k2 f2 1 4294967296) (c3 : f3 = rnF L k2 f2 1 4294967296) (d1 : xi = ruV L k3 f3) (d2 : k4 = ruK L k3 f3) (d3 : f4 = ruF L k3 f3) (e1 : xb = ruV L k4 f4) (e2 : k5 = ruK L k4 f4) (e3 : f5 = ruF L k4 f4) :
    qRdX L k f = (k5, f5, (xo, xv, xs, xp, xf, xc, xi, xb)) := by
  subst a1; subst a2; subst a3; subst b1; subst b2; subst b3; subst b4; subst b5; subst b6; subst c1; subst c2; subst c3; subst d1; subst d2; subst d3; subst e1; subst e2; subst e3
  rfl
theorem qRdX_some (L : List Nat) (k : Nat) (x : Int × Int) : (qRdX L k (some x)).2.1 = some x := by
  show ruF L _ (ruF L _ (rnF L _ (tkF L (_, rnF L k (some x) 0 63)) _ _)) = _
  rw [rnF_s, tkF_s, rnF_s, ruF_s, ruF_s]
theorem qRdX_none {L : List Nat} {k : Nat} {f : Option (Int × Int)} (h : (qRdX L k f).2.1 = none) : f = none := by
  cases f with
  | none => rfl
  | some x => rw [qRdX_some] at h; cases h
theorem qRdX_nz {L : List Nat} {k : Nat} {f : Option (Int × Int)} (h : FltNz f) : FltNz (qRdX L k f).2.1 := ruq_nz (ruq_nz ((tkF_nz (h.rn _ _ _ _)).rn _ _ _ _))
theorem fits_s {x : Int} (h0 : -1000 ≤ x) (h1 : x ≤ 4294967296) : Fits .i64 x := by
  unfold Fits
  simp [Lit.wf, IntKind.min, IntKind.max, IntKind.bits, IntKind.signed]
  omega
theorem qRdX_fits (L : List Nat) (k : Nat) (f : Option (Int × Int)) : FitsQ (qRdX L k f).2.2 := by
  have b : ∀ (k : Nat) (f : Option (Int × Int)) (lo hi : Int), 0 ≤ hi → hi ≤ 4294967296 → Fits .i64 (rnV L k f lo hi) := fun k f lo hi h1 h2 => by have := rnV_in L k f lo hi h1; exact fits_s (by omega) (by omega)
  have bz : ∀ (k : Nat) (f : Option (Int × Int)) (lo hi d : Int) (z : Bool), 0 ≤ hi → hi ≤ 4294967296 → 0 ≤ d → d ≤ 1 → Fits .i64 (if z = true then 0 else rnV L k f lo hi - d) := fun k f lo hi d z h1 h2 h3 h4 => by
    have := rnV_in L k f lo hi h1
    split
    · exact fits_s (by omega) (by omega)
    · exact fits_s (by omega) (by omega)
  have bz0 : ∀ (k : Nat) (f : Option (Int × Int)) (lo hi : Int) (z : Bool), 0 ≤ hi → hi ≤ 4294967296 → Fits .i64 (if z = true then 0 else rnV L k f lo hi) := fun k f lo hi z h1 h2 => by have := bz k f lo hi 0 z h1 h2 (by decide) (by decide); rwa [Int.sub_zero] at this
  exact ⟨b _ _ _ _ (by decide) (by decide), bz0 _ _ _ _ _ (by decide) (by decide), bz0 _ _ _ _ _ (by decide) (by decide), bz _ _ _ _ 1 _ (by decide) (by decide) (by decide) (by decide), bz0 _ _ _ _ _ (by decide) (by decide), b _ _ _ _ (by decide) (by decide), ru_w _ _ _, ru_w _ _ _⟩
/-- one entry is read: with a fault all stays as it is -/
def qRd1 (L : List Nat) (s : (Nat × Option (Int × Int) × List (Int × Int × Int × Int × Int × Int × Int × Int))) : (Nat × Option (Int × Int) × List (Int × Int × Int × Int × Int × Int × Int × Int)) :=
  match s.2.1 with
  | some _ => s
  | none => if (qRdX L s.1 none).2.1 = none then ((qRdX L s.1 none).1, failF none (oneQ (qRdX L s.1 none).2.2 (lastQ s.2.2)) (s.1 : Int), s.2.2 ++ [(qRdX L s.1 none).2.2]) else ((qRdX L s.1 none).1, (qRdX L s.1 none).2.1, s.2.2)
def qRd (L : List Nat) (s : (Nat × Option (Int × Int) × List (Int × Int × Int × Int × Int × Int × Int × Int))) : Nat → (Nat × Option (Int × Int) × List (Int × Int × Int × Int × Int × Int × Int × Int))
  | 0 => s
  | j + 1 => qRd1 L (qRd L s j)
/-- the state behind the count -/
def qS0 (L : List Nat) : (Nat × Option (Int × Int) × List (Int × Int × Int × Int × Int × Int × Int × Int)) := (rnK L 0 none 0 32768, rnF L 0 none 0 32768, [])
def qEnd (L : List Nat) (s : (Nat × Option (Int × Int) × List (Int × Int × Int × Int × Int × Int × Int × Int))) : List (Int × Int × Int × Int × Int × Int × Int × Int) × Int × Int := if (endF s.2.1 s.1 L.length).1 ≠ 0 then ([], endF s.2.1 s.1 L.length) else if totB s.2.2 ≤ 4611686018427387904 then (s.2.2, 0, 0) else ([], 12, 0)
def queRV (L : List Nat) : List (Int × Int × Int × Int × Int × Int × Int × Int) × Int × Int := qEnd L (qRd L (qS0 L) (rnV L 0 none 0 32768).toNat)
theorem qRd1_some {L : List Nat} {s : (Nat × Option (Int × Int) × List (Int × Int × Int × Int × Int × Int × Int × Int))} {x : Int × Int} (h : s.2.1 = some x) : qRd1 L s = s := by unfold qRd1; rw [h]
theorem qRd_stay {L : List Nat} {s : (Nat × Option (Int × Int) × List (Int × Int × Int × Int × Int × Int × Int × Int))} {x : Int × Int} {j : Nat} (h : (qRd L s j).2.1 = some x) : ∀ m, qRd L s (j + m) = qRd L s j
  | 0 => rfl
  | m + 1 => by
    have ih := qRd_stay h m
    show qRd1 L (qRd L s (j + m)) = _
    rw [ih]
    exact qRd1_some h
theorem qRd_some {L : List Nat} {s : (Nat × Option (Int × Int) × List (Int × Int × Int × Int × Int × Int × Int × Int))} {x : Int × Int} {j n : Nat} (h : (qRd L s j).2.1 = some x) (hn : j ≤ n) : (qRd L s n).2.1 = some x := by
  have := qRd_stay h (n - j)
  rw [show j + (n - j) = n from by omega] at this
  rw [this, h]
/-- what a walk has read behind j entries -/
def QI (L : List Nat) (j k : Nat) (f : Option (Int × Int)) (out : List (Int × Int × Int × Int × Int × Int × Int × Int)) : Prop :=
  (qRd L (qS0 L) j).2.1 = f ∧ (f = none → qRd L (qS0 L) j = (k, none, out)) ∧ out.length ≤ j ∧ (∀ x ∈ out, FitsQ x) ∧ FltNz f
theorem QI.start (L : List Nat) : QI L 0 (qS0 L).1 (qS0 L).2.1 [] := ⟨rfl, fun h => by show qS0 L = _; unfold qS0 at h ⊢; simp only at h; rw [h], Nat.le_refl _, (fun x h => by cases h), FltNz.none.rn _ _ _ _⟩
/-- fields that end in a fault -/
theorem QI.brk {L : List Nat} {j k k5 n : Nat} {f : Option (Int × Int)} {x : Int × Int} {y : (Int × Int × Int × Int × Int × Int × Int × Int)} {out : List (Int × Int × Int × Int × Int × Int × Int × Int)} (h : QI L j k f out) (hx : qRdX L k f = (k5, some x, y)) (hn : j < n) : QI L n k5 (some x) out := by
  obtain ⟨h1, h2, h3, h4, h5⟩ := h
  have hs : (qRd L (qS0 L) (j + 1)).2.1 = some x := by
    show (qRd1 L (qRd L (qS0 L) j)).2.1 = _
    cases f with
    | some z =>
      have e := qRdX_some L k z
      rw [hx] at e
      rw [qRd1_some h1, h1]
      exact e.symm
    | none =>
      rw [h2 rfl]
      unfold qRd1
      simp only [hx]
      rw [if_neg (by simp)]
  exact ⟨qRd_some hs (by omega), (fun h => by cases h), by omega, h4, by have := qRdX_nz (L := L) (k := k) h5; rw [hx] at this; exact this⟩
/-- fields without a fault -/
theorem QI.go {L : List Nat} {j k k5 : Nat} {f : Option (Int × Int)} {y : (Int × Int × Int × Int × Int × Int × Int × Int)} {ev : Int} {out : List (Int × Int × Int × Int × Int × Int × Int × Int)} (h : QI L j k f out) (hx : qRdX L k f = (k5, none, y)) (he : ev = oneQ y (lastQ out)) : QI L (j + 1) k5 (failF none ev (atF f k)) (out ++ [y]) := by
  obtain ⟨h1, h2, h3, h4, h5⟩ := h
  obtain rfl : f = none := qRdX_none (by rw [hx])
  have hs : qRd L (qS0 L) (j + 1) = (k5, failF none ev (k : Int), out ++ [y]) := by
    show qRd1 L (qRd L (qS0 L) j) = _
    rw [h2 rfl]
    unfold qRd1
    simp only [hx]
    rw [if_pos trivial, ← he]
  refine ⟨by rw [hs]; rfl, fun hn => ?_, by rw [List.length_append]; simpa using h3, fun z hz => ?_, FltNz.none.fail _ _⟩
  · rw [hs]
    show (k5, failF none ev (k : Int), out ++ [y]) = _
    rw [show failF none ev (k : Int) = none from hn]
  · rcases List.mem_append.1 hz with hz | hz
    · exact h4 z hz
    · rw [List.mem_singleton.1 hz]
      have := qRdX_fits L k none
      rw [hx] at this
      exact this
/-- the end -/
theorem QI.end_ {L : List Nat} {N k : Nat} {f : Option (Int × Int)} {e a : Int} {out : List (Int × Int × Int × Int × Int × Int × Int × Int)} {R : List (Int × Int × Int × Int × Int × Int × Int × Int) × Int × Int} (h : QI L N k f out) (he : (e, a) = endF f k L.length) (hR : R = qEnd L (qRd L (qS0 L) N)) :
    (e ≠ 0 → R = ([], e, a)) ∧ (e = 0 → a = 0 ∧ (totB out ≤ 4611686018427387904 → R = (out, 0, 0)) ∧ (4611686018427387904 < totB out → R = ([], 12, 0))) := by
  obtain ⟨h1, h2, h3, h4, h5⟩ := h
  cases f with
  | some x =>
    have ex : (e, a) = x := he
    have hx0 : e ≠ 0 := by have := h5 x rfl; rw [← ex] at this; exact this
    refine ⟨fun _ => ?_, fun h0 => absurd h0 hx0⟩
    rw [hR]
    unfold qEnd
    rw [h1]
    show (if x.1 ≠ 0 then (([] : List (Int × Int × Int × Int × Int × Int × Int × Int)), x) else _) = _
    rw [← ex, if_pos hx0]
  | none =>
    have hq := h2 rfl
    rw [hq] at hR
    unfold qEnd at hR
    simp only at hR
    rw [← he] at hR
    refine ⟨fun h0 => by rw [hR, if_pos h0], fun h0 => ⟨?_, fun ht => ?_, fun ht => ?_⟩⟩
    · unfold endF at he
      simp only at he
      split at he
      · injection he with q1 q2; omega
      · injection he
    · rw [hR, if_neg (by simpa using h0), if_pos ht]
    · rw [hR, if_neg (by simpa using h0), if_neg (by omega)]
set_option maxRecDepth 100000 in
set_option maxHeartbeats 4000000 in
theorem qRead_any (A : Option Addr) (c : Nat) (L : List Nat) (hB : Byt L) (hL : L.length < 1099511627776) (hnil : A = none → c = 0) (w : World) (hs : Sl w 1 A L.length c (by_ L)) :
    Calls Tryz.prog 10 #[.slice A L.length c] w (RetEntV (queRV L).1 [.agg #[.int .i64 (queRV L).2.1, .int .i64 (queRV L).2.2]] w) := by
  have s1 := hs.small
  obtain ⟨R, hR⟩ : ∃ R, R = queRV L := ⟨_, rfl⟩
  rw [← hR]
  obtain ⟨nn, hnn⟩ : ∃ v, v = rnV L 0 none 0 32768 := ⟨_, rfl⟩
  obtain ⟨hn0, hn1⟩ : 0 ≤ nn ∧ nn ≤ 32768 := by rw [hnn]; exact rnV_in L 0 none 0 32768 (by decide)
  obtain ⟨N, rfl⟩ : ∃ N : Nat, nn = (N : Int) := ⟨nn.toNat, by omega⟩
  have HR0 : Hid (R = qEnd L (qRd L (qS0 L) N)) := Lib.hid (by rw [hR]; unfold queRV; rw [← hnn, show ((N : Int)).toNat = N from by simp])
  have HNN := Lib.hid hnn
  have HBy := Lib.hid hB
  have HS := Lib.hid hs
  have hfd : ∀ (w : World) (e a : Int), (Instr.field 32 (.agg #[.int .i64 e, .int .i64 a]) 0).run Tryz.prog w = .ok (.int .i64 e) w := fun _ _ _ => by kernel_rfl
  obtain ⟨i0, hi0, hz0, hz1, hz2⟩ := ent_infoP
  clear hs hR hnn hB
  go_enter Tryz.func10, Tryz.ntmps10
  go_wp2_with fail
  (with_reducible refine (cNewReader_any A c L HBy.out _ (HS.out.ext (by repeat (first | with_reducible exact Ext.refl _ | with_reducible refine Ext.drew ?_ | with_reducible refine Ext.drewN ?_ _ | with_reducible refine Ext.alloc ?_ _ | with_reducible refine Ext.setCell ?_ (by first | omega | (simp; done) | (simp; omega)) _))) hL hnil).mono ?_)
  rintro e w1 ⟨g, rfl, hg, hRd, hx1⟩
  have c0_0f : w1.frozen? ⟨w.heap.size, 0, none⟩ = false := hx1.froz (v := .int .i64 0) (by first | fail | (simp [go_sem, World.cell?_alloc_past]; done)) (by first | fail | (simp [go_sem, World.cell?_alloc_past]; done))
  have c0_1f : w1.frozen? ⟨w.heap.size, 1, none⟩ = false := hx1.froz (v := .int .i64 0) (by first | fail | (simp [go_sem, World.cell?_alloc_past]; done)) (by first | fail | (simp [go_sem, World.cell?_alloc_past]; done))
  have c0_0 : w1.cell? ⟨w.heap.size, 0, none⟩ = some (.int .i64 0) := hx1.has (by first | fail | (simp [go_sem, World.cell?_alloc_past]; done))
  have c0_1 : w1.cell? ⟨w.heap.size, 1, none⟩ = some (.int .i64 0) := hx1.has (by first | fail | (simp [go_sem, World.cell?_alloc_past]; done))
  have z1 := hx1.size
  try simp at z1
  have rc0 : w.heap.size < w1.heap.size := by omega
  have rc0a : w.heap.size < w1.heap.size + 1 := by omega
  have rc0b : w.heap.size < w1.heap.size + 1 + 1 := by omega
  have rc0c : w.heap.size < w1.heap.size + 1 + 1 + 1 := by omega
  have rc0n : ¬ w.heap.size = w1.heap.size := by omega
  have X1 : Hid (Ext w w1) := Lib.hid (Ext.trans (by repeat (first | with_reducible exact Ext.refl w | with_reducible refine Ext.drew ?_ | with_reducible refine Ext.drewN ?_ _ | with_reducible refine Ext.alloc ?_ _ | with_reducible refine Ext.setCell ?_ (by first | omega | (simp; done) | (simp; omega)) _)) hx1)
  have HR := Lib.hid hRd
  clear HS hx1 z1 hRd
  have hgw : w.heap.size < g := by (try simp at hg); omega
  have hgl := HR.out.lt
  go_wp2_with fail
  (with_reducible refine (cRN_e g 0 (qS0 L).1 L none (qS0 L).2.1 0 32768 (N : Int) (by decide) (by decide) (by decide) (by decide) hL HNN.out rfl rfl _ (HR.out.ext (by repeat (first | with_reducible exact Ext.refl _ | with_reducible refine Ext.drew ?_ | with_reducible refine Ext.drewN ?_ _ | with_reducible refine Ext.alloc ?_ _ | with_reducible refine Ext.setCell ?_ (by first | omega | (simp; done) | (simp; omega)) _)))).mono ?_)
  rintro e w2 ⟨rfl, hRd, hx2⟩
  have hsz2 := hx2.size
  try simp at hsz2
  replace c0_0f : w2.frozen? ⟨w.heap.size, 0, none⟩ = false := hx2.froz (by show ¬ _ = _; first | assumption | omega) (v := .int .i64 0) (by first | exact c0_0 | (simp [go_sem, World.cell?_alloc_past, c0_0f, c0_1f, c0_0, c0_1, rc0, rc0a, rc0b, rc0c, rc0n]; done)) (by first | exact c0_0f | (simp [go_sem, World.cell?_alloc_past, c0_0f, c0_1f, c0_0, c0_1, rc0, rc0a, rc0b, rc0c, rc0n]; done))
  replace c0_1f : w2.frozen? ⟨w.heap.size, 1, none⟩ = false := hx2.froz (by show ¬ _ = _; first | assumption | omega) (v := .int .i64 0) (by first | exact c0_1 | (simp [go_sem, World.cell?_alloc_past, c0_0f, c0_1f, c0_0, c0_1, rc0, rc0a, rc0b, rc0c, rc0n]; done)) (by first | exact c0_1f | (simp [go_sem, World.cell?_alloc_past, c0_0f, c0_1f, c0_0, c0_1, rc0, rc0a, rc0b, rc0c, rc0n]; done))
  replace c0_0 : w2.cell? ⟨w.heap.size, 0, none⟩ = some (.int .i64 0) := hx2.has (by show ¬ _ = _; first | assumption | omega) (by first | exact c0_0 | (simp [go_sem, World.cell?_alloc_past, c0_0f, c0_1f, c0_0, c0_1, rc0, rc0a, rc0b, rc0c, rc0n]; done))
  replace c0_1 : w2.cell? ⟨w.heap.size, 1, none⟩ = some (.int .i64 0) := hx2.has (by show ¬ _ = _; first | assumption | omega) (by first | exact c0_1 | (simp [go_sem, World.cell?_alloc_past, c0_0f, c0_1f, c0_0, c0_1, rc0, rc0a, rc0b, rc0c, rc0n]; done))
  have z2 := hx2.size
  try simp at z2
  replace rc0 : w.heap.size < w2.heap.size := by omega
  replace rc0a : w.heap.size < w2.heap.size + 1 := by omega
  replace rc0b : w.heap.size < w2.heap.size + 1 + 1 := by omega
  replace rc0c : w.heap.size < w2.heap.size + 1 + 1 + 1 := by omega
  replace rc0n : ¬ w.heap.size = w2.heap.size := by omega
  have X2 : Hid (Ext w w2) := Lib.hid (have hX := (show Ext w _ from (by repeat (first | with_reducible exact X1.out | with_reducible refine Ext.drew ?_ | with_reducible refine Ext.drewN ?_ _ | with_reducible refine Ext.alloc ?_ _ | with_reducible refine Ext.setCell ?_ (by first | omega | (simp; done) | (simp; omega)) _))); Below.trans hX (hx2.below (Ext.size hX) (fun k hk hh => by have hh2 : k = g := hh; omega)))
  clear HR
  have HR := Lib.hid hRd
  clear hsz2 X1 hx2 z2 hRd
  have hgl2 := HR.out.lt
  go_wp2_with fail
  go_loopg [5, 13] N (fun gh q i wx => gh ≤ N ∧ i = .int .i64 ((N - gh : Nat) : Int) ∧ (∃ k f out, Hid (Rd wx g L k f) ∧ Hid (OwnEnt wx (g + 1) q out.length out) ∧ Hid (QI L (N - gh) k f out)) ∧ (wx.cell? ⟨w.heap.size, 0, none⟩ = some (.int .i64 0) ∧ wx.cell? ⟨w.heap.size, 1, none⟩ = some (.int .i64 0) ∧ wx.frozen? ⟨w.heap.size, 0, none⟩ = false ∧ wx.frozen? ⟨w.heap.size, 1, none⟩ = false) ∧ Ext w wx)
  case atStart => exact ⟨Nat.le_refl _, by simp, ⟨_, _, _, HR, Lib.hid (OwnEnt.nil _ _), by rw [Nat.sub_self]; exact Lib.hid (QI.start L)⟩, ⟨c0_0, c0_1, c0_0f, c0_1f⟩, X2.out⟩
  case round =>
    obtain ⟨hg, hi, ⟨k, f, out, hr, ho, hq⟩, ⟨y_0, y_1, y_0f, y_1f⟩, hx⟩ := hrel
    obtain ⟨j, hj⟩ : ∃ j, j = N - gk := ⟨_, rfl⟩
    rw [← hj] at hi hq
    subst hi
    have XR := Lib.hid hx
    have hyr : w.heap.size < wr.heap.size := cell_lt y_0
    have hlen := hq.out.2.2.1
    have hgrr := hr.out.lt
    obtain ⟨A9, c9, rfl, hA9, hSl9⟩ := own_parts2 ho.out
    have HA9 := Lib.hid hA9
    clear hA9 hSl9
    by_cases hz : gk = 0
    · have hkn : ¬ (j : Int) < N := by omega
      have hjn : j = N := by omega
      obtain ⟨⟨e, a⟩, hea⟩ : ∃ E, E = endF f k L.length := ⟨_, rfl⟩
      have HE := Lib.hid (QI.end_ (by rw [← hjn]; exact hq.out) hea HR0.out)
      have HEA := Lib.hid hea
      have HFQ := Lib.hid hq.out.2.2.2.1
      obtain ⟨sm, hsm⟩ : ∃ s, s = sumP out := ⟨_, rfl⟩
      have HSM := Lib.hid hsm
      have HRd := hr
      have HO := Lib.hid (OwnR.mk (show World.ownsRow _ _ 53 8 _ _ _ from ho.out))
      have hln : out.length ≤ 100000 := by omega
      clear hx hj hg hz hjn hlen hea hr ho hq hsm
      go_wp2_with fail
      (with_reducible refine (cEnd_q g k L f e a _ (HRd.out.ext (by repeat (first | with_reducible exact Ext.refl _ | with_reducible refine Ext.drew ?_ | with_reducible refine Ext.drewN ?_ _ | with_reducible refine Ext.alloc ?_ _ | with_reducible refine Ext.setCell ?_ (by first | omega | (simp; done) | (simp; omega)) _))) hL HEA.out).mono ?_)
      rintro e w41 ⟨rfl, hx41⟩
      replace y_0f : w41.frozen? ⟨w.heap.size, 0, none⟩ = false := hx41.froz (v := .int .i64 0) (by first | exact y_0 | (simp [go_sem, World.cell?_alloc_past, y_0, y_0f, y_1, y_1f]; done)) (by first | exact y_0f | (simp [go_sem, World.cell?_alloc_past, y_0, y_0f, y_1, y_1f]; done))
      replace y_1f : w41.frozen? ⟨w.heap.size, 1, none⟩ = false := hx41.froz (v := .int .i64 0) (by first | exact y_1 | (simp [go_sem, World.cell?_alloc_past, y_0, y_0f, y_1, y_1f]; done)) (by first | exact y_1f | (simp [go_sem, World.cell?_alloc_past, y_0, y_0f, y_1, y_1f]; done))
      replace y_0 : w41.cell? ⟨w.heap.size, 0, none⟩ = some (.int .i64 0) := hx41.has (by first | exact y_0 | (simp [go_sem, World.cell?_alloc_past, y_0, y_0f, y_1, y_1f]; done))
      replace y_1 : w41.cell? ⟨w.heap.size, 1, none⟩ = some (.int .i64 0) := hx41.has (by first | exact y_1 | (simp [go_sem, World.cell?_alloc_past, y_0, y_0f, y_1, y_1f]; done))
      have z41 := hx41.size
      try simp at z41
      have ry : w.heap.size < w41.heap.size := by omega
      have rya : w.heap.size < w41.heap.size + 1 := by omega
      have ryb : w.heap.size < w41.heap.size + 1 + 1 := by omega
      have ryc : w.heap.size < w41.heap.size + 1 + 1 + 1 := by omega
      have ryn : ¬ w.heap.size = w41.heap.size := by omega
      replace HRd := Lib.hid (HRd.out.ext (Ext.trans (by repeat (first | with_reducible exact Ext.refl _ | with_reducible refine Ext.drew ?_ | with_reducible refine Ext.drewN ?_ _ | with_reducible refine Ext.alloc ?_ _ | with_reducible refine Ext.setCell ?_ (by first | omega | (simp; done) | (simp; omega)) _)) hx41))
      replace HO := Lib.hid ((OwnR.butN HO.out (by repeat (first | with_reducible exact But.refl _ _ | with_reducible refine But.drew ?_ | with_reducible refine But.drewN ?_ _ | with_reducible refine But.alloc ?_ _ | with_reducible refine But.setCell ?_ (by first | exact Nat.le_refl _ | (dsimp only; omega)) _ | with_reducible refine But.setNew ?_ (by first | omega | (simp; done) | (simp; omega)) _))).ext hx41)
      have X41 : Hid (Ext w w41) := Lib.hid (Ext.trans (by repeat (first | with_reducible exact XR.out | with_reducible refine Ext.drew ?_ | with_reducible refine Ext.drewN ?_ _ | with_reducible refine Ext.alloc ?_ _ | with_reducible refine Ext.setCell ?_ (by first | omega | (simp; done) | (simp; omega)) _)) hx41)
      clear XR hx41
      by_cases he : e = 0
      · have e7 : (e == 0) = true := by simpa using he
        have ha2 : a = 0 := (HE.out.2 he).1
        have HE2 := Lib.hid (HE.out.2 he).2
        clear HE
        subst he; subst ha2
        clear e7
        go_wp2_with fail
        (with_reducible refine (qsum_e A9 out.length c9 out sm _ (Sl.own (OwnR.own (OwnR.butN HO.out (by repeat (first | with_reducible exact But.refl _ _ | with_reducible refine But.drew ?_ | with_reducible refine But.drewN ?_ _ | with_reducible refine But.alloc ?_ _ | with_reducible refine But.setCell ?_ (by first | exact Nat.le_refl _ | (dsimp only; omega)) _ | with_reducible refine But.setNew ?_ (by first | omega | (simp; done) | (simp; omega)) _))))) hln HFQ.out HSM.out).mono ?_)
        rintro e w42 ⟨rfl, hx42⟩
        replace y_0f : w42.frozen? ⟨w.heap.size, 0, none⟩ = false := hx42.froz (v := .int .i64 0) (by first | exact y_0 | (simp [go_sem, World.cell?_alloc_past, y_0f, y_1f, y_0, y_1, ry, rya, ryb, ryc, ryn]; done)) (by first | exact y_0f | (simp [go_sem, World.cell?_alloc_past, y_0f, y_1f, y_0, y_1, ry, rya, ryb, ryc, ryn]; done))
        replace y_1f : w42.frozen? ⟨w.heap.size, 1, none⟩ = false := hx42.froz (v := .int .i64 0) (by first | exact y_1 | (simp [go_sem, World.cell?_alloc_past, y_0f, y_1f, y_0, y_1, ry, rya, ryb, ryc, ryn]; done)) (by first | exact y_1f | (simp [go_sem, World.cell?_alloc_past, y_0f, y_1f, y_0, y_1, ry, rya, ryb, ryc, ryn]; done))
        replace y_0 : w42.cell? ⟨w.heap.size, 0, none⟩ = some (.int .i64 0) := hx42.has (by first | exact y_0 | (simp [go_sem, World.cell?_alloc_past, y_0f, y_1f, y_0, y_1, ry, rya, ryb, ryc, ryn]; done))
        replace y_1 : w42.cell? ⟨w.heap.size, 1, none⟩ = some (.int .i64 0) := hx42.has (by first | exact y_1 | (simp [go_sem, World.cell?_alloc_past, y_0f, y_1f, y_0, y_1, ry, rya, ryb, ryc, ryn]; done))
        have c0_0f : w42.frozen? ⟨w41.heap.size, 0, none⟩ = false := hx42.froz (v := .int .i64 0) (by first | fail | (simp [go_sem, World.cell?_alloc_past, y_0f, y_1f, y_0, y_1, ry, rya, ryb, ryc, ryn]; done)) (by first | fail | (simp [go_sem, World.cell?_alloc_past, y_0f, y_1f, y_0, y_1, ry, rya, ryb, ryc, ryn]; done))
        have c0_0 : w42.cell? ⟨w41.heap.size, 0, none⟩ = some (.int .i64 0) := hx42.has (by first | fail | (simp [go_sem, World.cell?_alloc_past, y_0f, y_1f, y_0, y_1, ry, rya, ryb, ryc, ryn]; done))
        have c0_1 : w42.cell? ⟨w41.heap.size, 1, none⟩ = some (.int .i64 0) := hx42.has (by first | fail | (simp [go_sem, World.cell?_alloc_past, y_0f, y_1f, y_0, y_1, ry, rya, ryb, ryc, ryn]; done))
        have z42 := hx42.size
        try simp at z42
        have lt_y_c0 : w.heap.size < w41.heap.size := by omega
        have ne_y_c0 : ¬ w.heap.size = w41.heap.size := by omega
        have ne_c0_y : ¬ w41.heap.size = w.heap.size := by omega
        replace ry : w.heap.size < w42.heap.size := by omega
        replace rya : w.heap.size < w42.heap.size + 1 := by omega
        replace ryb : w.heap.size < w42.heap.size + 1 + 1 := by omega
        replace ryc : w.heap.size < w42.heap.size + 1 + 1 + 1 := by omega
        replace ryn : ¬ w.heap.size = w42.heap.size := by omega
        have rc0 : w41.heap.size < w42.heap.size := by omega
        have rc0a : w41.heap.size < w42.heap.size + 1 := by omega
        have rc0b : w41.heap.size < w42.heap.size + 1 + 1 := by omega
        have rc0c : w41.heap.size < w42.heap.size + 1 + 1 + 1 := by omega
        have rc0n : ¬ w41.heap.size = w42.heap.size := by omega
        replace HRd := Lib.hid (HRd.out.ext (Ext.trans (by repeat (first | with_reducible exact Ext.refl _ | with_reducible refine Ext.drew ?_ | with_reducible refine Ext.drewN ?_ _ | with_reducible refine Ext.alloc ?_ _ | with_reducible refine Ext.setCell ?_ (by first | omega | (simp; done) | (simp; omega)) _)) hx42))
        replace HO := Lib.hid ((OwnR.butN HO.out (by repeat (first | with_reducible exact But.refl _ _ | with_reducible refine But.drew ?_ | with_reducible refine But.drewN ?_ _ | with_reducible refine But.alloc ?_ _ | with_reducible refine But.setCell ?_ (by first | exact Nat.le_refl _ | (dsimp only; omega)) _ | with_reducible refine But.setNew ?_ (by first | omega | (simp; done) | (simp; omega)) _))).ext hx42)
        have X42 : Hid (Ext w w42) := Lib.hid (Ext.trans (by repeat (first | with_reducible exact X41.out | with_reducible refine Ext.drew ?_ | with_reducible refine Ext.drewN ?_ _ | with_reducible refine Ext.alloc ?_ _ | with_reducible refine Ext.setCell ?_ (by first | omega | (simp; done) | (simp; omega)) _)) hx42)
        clear X41 hx42
        by_cases ht : 4611686018427387904 < sm
        · have e9 : decide (4611686018427387904 < sm) = true := decide_eq_true ht
          go_wp2_with fail
          refine wp_region_held_drew (S := fun w' => w'.cell? ⟨w41.heap.size, 0, none⟩ = some (.int .i64 12) ∧ w'.cell? ⟨w41.heap.size, 1, none⟩ = some (.int .i64 0)) (by kernel_rfl) (by first | exact ⟨c0_0, c0_1⟩ | (simp [go_sem, World.cell?_alloc_past, y_0f, y_1f, y_0, y_1, c0_0f, c0_0, c0_1, ne_y_c0, ne_c0_y, ry, rya, ryb, ryc, ryn, rc0, rc0a, rc0b, rc0c, rc0n]; done)) (fun hHeld => ?_)
          (refine' take_in 0 rfl (by kernel_rfl) (by kernel_rfl) (by kernel_rfl) (fun _ _ _ h => h) (by rfl) (by assumption) ?_ ?_; rotate_left; focus (intro w hSw; (try dsimp only at hSw); go_simp; try with_reducible rfl)); try simp only [Act.put, List.setIfInBounds_toArray, List.set_cons_zero, List.set_cons_succ]
          (refine' take_in 1 rfl (by kernel_rfl) (by kernel_rfl) (by kernel_rfl) (fun _ _ _ h => h) (by rfl) (by assumption) ?_ ?_; rotate_left; focus (intro w hSw; (try dsimp only at hSw); go_simp; try with_reducible rfl)); try simp only [Act.put, List.setIfInBounds_toArray, List.set_cons_zero, List.set_cons_succ]
          refine' next_in 2 rfl (by kernel_rfl) (by rfl) (fun K hK => ?_)
          go_simp
          refine hK.out _ _ (by (first | exact ⟨c0_0, c0_1⟩ | (simp [go_sem, World.cell?_alloc_past, y_0f, y_1f, y_0, y_1, c0_0f, c0_0, c0_1, ne_y_c0, ne_c0_y, ry, rya, ryb, ryc, ryn, rc0, rc0a, rc0b, rc0c, rc0n]; done))) (fun hHeld => ?_); clear hK K; try simp only [Act.put, List.setIfInBounds_toArray, List.set_cons_zero, List.set_cons_succ]
          refine wpAnyH_done (by kernel_rfl) ?_ _
          obtain rfl : R = ([], 12, 0) := HE2.out.2 (sumP_lt (by have := HSM.out; omega))
          go_wp2_with fail
          refine bodyPost_ret (v := .tuple #[.slice none 0 0, .agg #[.int .i64 12, .int .i64 0]]) (by simp [results, Tryz.results10, go_sem, World.cell?_alloc_past, y_0f, y_1f, y_0, y_1, c0_0f, c0_0, c0_1, ne_y_c0, ne_c0_y, ry, rya, ryb, ryc, ryn, rc0, rc0a, rc0b, rc0c, rc0n]; try rfl) rfl (RetEntV.nil (xs := [.agg #[.int .i64 12, .int .i64 0]]) ?_)
          exact (by repeat (first | with_reducible exact X42.out | with_reducible refine Ext.drew ?_ | with_reducible refine Ext.drewN ?_ _ | with_reducible refine Ext.alloc ?_ _ | with_reducible refine Ext.setCell ?_ (by first | omega | (simp; done) | (simp; omega)) _))
        · have e9 : decide (4611686018427387904 < sm) = false := decide_eq_false ht
          go_wp2_with fail
          refine wp_region_held_drew (S := fun w' => w'.cell? ⟨w41.heap.size, 0, none⟩ = some (.int .i64 0) ∧ w'.cell? ⟨w41.heap.size, 1, none⟩ = some (.int .i64 0)) (by kernel_rfl) (by first | exact ⟨c0_0, c0_1⟩ | (simp [go_sem, World.cell?_alloc_past, y_0f, y_1f, y_0, y_1, c0_0f, c0_0, c0_1, ne_y_c0, ne_c0_y, ry, rya, ryb, ryc, ryn, rc0, rc0a, rc0b, rc0c, rc0n]; done)) (fun hHeld => ?_)
          (refine' take_in 0 rfl (by kernel_rfl) (by kernel_rfl) (by kernel_rfl) (fun _ _ _ h => h) (by rfl) (by assumption) ?_ ?_; rotate_left; focus (intro w hSw; (try dsimp only at hSw); go_simp; try with_reducible rfl)); try simp only [Act.put, List.setIfInBounds_toArray, List.set_cons_zero, List.set_cons_succ]
          (refine' take_in 1 rfl (by kernel_rfl) (by kernel_rfl) (by kernel_rfl) (fun _ _ _ h => h) (by rfl) (by assumption) ?_ ?_; rotate_left; focus (intro w hSw; (try dsimp only at hSw); go_simp; try with_reducible rfl)); try simp only [Act.put, List.setIfInBounds_toArray, List.set_cons_zero, List.set_cons_succ]
          (refine' take_in 2 rfl (by kernel_rfl) (by kernel_rfl) (by kernel_rfl) (fun _ _ _ h => h) (by rfl) (by assumption) ?_ ?_; rotate_left; focus (intro w hSw; (try dsimp only at hSw); go_simp; try with_reducible rfl)); try simp only [Act.put, List.setIfInBounds_toArray, List.set_cons_zero, List.set_cons_succ]
          refine' next_in 3 rfl (by kernel_rfl) (by rfl) (fun K hK => ?_)
          go_simp
          refine hK.out _ _ (by (first | exact ⟨c0_0, c0_1⟩ | (simp [go_sem, World.cell?_alloc_past, y_0f, y_1f, y_0, y_1, c0_0f, c0_0, c0_1, ne_y_c0, ne_c0_y, ry, rya, ryb, ryc, ryn, rc0, rc0a, rc0b, rc0c, rc0n]; done))) (fun hHeld => ?_); clear hK K; try simp only [Act.put, List.setIfInBounds_toArray, List.set_cons_zero, List.set_cons_succ]
          refine wpAnyH_done (by kernel_rfl) ?_ _
          obtain rfl : R = (out, 0, 0) := HE2.out.1 (sumP_le (by have := HSM.out; omega))
          go_wp2_with fail
          refine bodyPost_ret (v := .tuple #[.slice A9 out.length c9, .agg #[.int .i64 0, .int .i64 0]]) (by simp [results, Tryz.results10, go_sem, World.cell?_alloc_past, y_0f, y_1f, y_0, y_1, c0_0f, c0_0, c0_1, ne_y_c0, ne_c0_y, ry, rya, ryb, ryc, ryn, rc0, rc0a, rc0b, rc0c, rc0n]; try rfl) rfl (RetEntV.mk (n := out.length) (xs := [.agg #[.int .i64 0, .int .i64 0]]) ?_ (by repeat (first | with_reducible exact X42.out | with_reducible refine Ext.drew ?_ | with_reducible refine Ext.drewN ?_ _ | with_reducible refine Ext.alloc ?_ _ | with_reducible refine Ext.setCell ?_ (by first | omega | (simp; done) | (simp; omega)) _)) rfl)
          exact own_lower (own_but (S := fun j => j = w.heap.size ∨ wr.heap.size ≤ j) (show OwnR wr.heap.size w42 _ _ _ _ _ _ from HO.out).own (by repeat (first | with_reducible exact But.refl _ _ | with_reducible refine But.drew ?_ | with_reducible refine But.drewN ?_ _ | with_reducible refine But.alloc ?_ _ | with_reducible refine But.setCell ?_ (by first | exact Or.inl rfl | (exact Or.inr (by (show _ ≤ _); omega))) _)) (fun j hj hh => by have h1 := own_block (show OwnR wr.heap.size w42 _ _ _ _ _ _ from HO.out).own hj; have h2 := (show OwnR wr.heap.size w42 _ _ _ _ _ _ from HO.out).2 j hj; rcases hh with hh | hh <;> omega)) (by omega)
      · have e7 : (e == 0) = false := by simpa using he
        have e8 : (e != 0) = true := by simpa using he
        go_wp2_with fail
        refine wp_region_held_drew (S := fun w' => w'.cell? ⟨w41.heap.size, 0, none⟩ = some (.int .i64 e) ∧ w'.cell? ⟨w41.heap.size, 1, none⟩ = some (.int .i64 a)) (by kernel_rfl) (by first | exact ⟨c0_0, c0_1⟩ | (simp [go_sem, World.cell?_alloc_past, y_0f, y_1f, y_0, y_1, ry, rya, ryb, ryc, ryn]; done)) (fun hHeld => ?_)
        (refine' take_in 0 rfl (by kernel_rfl) (by kernel_rfl) (by kernel_rfl) (fun _ _ _ h => h) (by rfl) (by assumption) ?_ ?_; rotate_left; focus (intro w hSw; (try dsimp only at hSw); go_simp; try with_reducible rfl)); try simp only [Act.put, List.setIfInBounds_toArray, List.set_cons_zero, List.set_cons_succ]
        (refine' take_in 1 rfl (by kernel_rfl) (by kernel_rfl) (by kernel_rfl) (fun _ _ _ h => h) (by rfl) (by assumption) ?_ ?_; rotate_left; focus (intro w hSw; (try dsimp only at hSw); go_simp; try with_reducible rfl)); try simp only [Act.put, List.setIfInBounds_toArray, List.set_cons_zero, List.set_cons_succ]
        refine' next_in 2 rfl (by kernel_rfl) (by rfl) (fun K hK => ?_)
        go_simp
        refine hK.out _ _ (by (first | exact ⟨c0_0, c0_1⟩ | (simp [go_sem, World.cell?_alloc_past, y_0f, y_1f, y_0, y_1, ry, rya, ryb, ryc, ryn]; done))) (fun hHeld => ?_); clear hK K; try simp only [Act.put, List.setIfInBounds_toArray, List.set_cons_zero, List.set_cons_succ]
        refine wpAnyH_done (by kernel_rfl) ?_ _
        obtain rfl : R = ([], e, a) := HE.out.1 he
        go_wp2_with fail
        refine bodyPost_ret (v := .tuple #[.slice none 0 0, .agg #[.int .i64 e, .int .i64 a]]) (by simp [results, Tryz.results10, go_sem, World.cell?_alloc_past, y_0f, y_1f, y_0, y_1, ry, rya, ryb, ryc, ryn]; try rfl) rfl (RetEntV.nil (xs := [.agg #[.int .i64 e, .int .i64 a]]) ?_)
        exact (by repeat (first | with_reducible exact X41.out | with_reducible refine Ext.drew ?_ | with_reducible refine Ext.drewN ?_ _ | with_reducible refine Ext.alloc ?_ _ | with_reducible refine Ext.setCell ?_ (by first | omega | (simp; done) | (simp; omega)) _))
    · have hkn : (j : Int) < N := by omega
      have hjs : (j : Int) ≤ 32768 := by omega
      have hjN : j < N := by omega
      obtain ⟨xo, hxo⟩ : ∃ v, v = rnV L k f 0 63 := ⟨_, rfl⟩
      obtain ⟨k1, hk1⟩ : ∃ v, v = rnK L k f 0 63 := ⟨_, rfl⟩
      obtain ⟨f1, hf1⟩ : ∃ v, v = rnF L k f 0 63 := ⟨_, rfl⟩
      obtain ⟨xv, hxv⟩ : ∃ v, v = if tkZ L (k1, f1) = true then 0 else tkA L (k1, f1) := ⟨_, rfl⟩
      obtain ⟨xs, hxs⟩ : ∃ v, v = if tkZ L (k1, f1) = true then 0 else tkB L (k1, f1) := ⟨_, rfl⟩
      obtain ⟨xp, hxp⟩ : ∃ v, v = if tkZ L (k1, f1) = true then 0 else tkC L (k1, f1) - 1 := ⟨_, rfl⟩
      obtain ⟨xf, hxf⟩ : ∃ v, v = if tkZ L (k1, f1) = true then 0 else tkD L (k1, f1) := ⟨_, rfl⟩
      obtain ⟨k2, hk2⟩ : ∃ v, v = (tk4 L (k1, f1)).1 := ⟨_, rfl⟩
      obtain ⟨f2, hf2⟩ : ∃ v, v = tkF L (k1, f1) := ⟨_, rfl⟩
      obtain ⟨xc, hxc⟩ : ∃ v, v = rnV L k2 f2 1 4294967296 := ⟨_, rfl⟩
      obtain ⟨k3, hk3⟩ : ∃ v, v = rnK L k2 f2 1 4294967296 := ⟨_, rfl⟩
      obtain ⟨f3, hf3⟩ : ∃ v, v = rnF L k2 f2 1 4294967296 := ⟨_, rfl⟩
      obtain ⟨xi, hxi⟩ : ∃ v, v = ruV L k3 f3 := ⟨_, rfl⟩
      obtain ⟨k4, hk4⟩ : ∃ v, v = ruK L k3 f3 := ⟨_, rfl⟩
      obtain ⟨f4, hf4⟩ : ∃ v, v = ruF L k3 f3 := ⟨_, rfl⟩
      obtain ⟨xb, hxb⟩ : ∃ v, v = ruV L k4 f4 := ⟨_, rfl⟩
      obtain ⟨k5, hk5⟩ : ∃ v, v = ruK L k4 f4 := ⟨_, rfl⟩
      obtain ⟨f5, hf5⟩ : ∃ v, v = ruF L k4 f4 := ⟨_, rfl⟩
      have hstep := qRdX_eq hxo hk1 hf1 hxv hxs hxp hxf hk2 hf2 hxc hk3 hf3 hxi hk4 hf4 hxb hk5 hf5
      have hfz : FltNz f5 := by have := qRdX_nz (L := L) (k := k) hq.out.2.2.2.2; rw [hstep] at this; exact this
      obtain ⟨bb, hbb⟩ : ∃ b, b = fltB f5 k5 L.length := ⟨_, rfl⟩
      obtain ⟨ev, hev⟩ : ∃ v, v = oneQ (xo, xv, xs, xp, xf, xc, xi, xb) (lastQ out) := ⟨_, rfl⟩
      have Gxo := Lib.hid hxo
      have Gk1 := Lib.hid hk1
      have Gf1 := Lib.hid hf1
      have Gxv := Lib.hid hxv
      have Gxs := Lib.hid hxs
      have Gxp := Lib.hid hxp
      have Gxf := Lib.hid hxf
      have Gk2 := Lib.hid hk2
      have Gf2 := Lib.hid hf2
      have Gxc := Lib.hid hxc
      have Gk3 := Lib.hid hk3
      have Gf3 := Lib.hid hf3
      have Gxi := Lib.hid hxi
      have Gk4 := Lib.hid hk4
      have Gf4 := Lib.hid hf4
      have Gxb := Lib.hid hxb
      have Gk5 := Lib.hid hk5
      have Gf5 := Lib.hid hf5
      have GS := Lib.hid hstep
      have GZ := Lib.hid hfz
      have GB := Lib.hid hbb
      have GE := Lib.hid hev
      have GG := Lib.hid (show oneG xo (chkS xv xs xp xf) xc xs (lastQ out) xi xb = ev from hev.symm)
      have GQ := hq
      have HK := Lib.hid (And.intro hj (And.intro hg hz))
      have HRd := hr
      have HO := Lib.hid (OwnR.mk (show World.ownsRow _ _ 53 8 _ _ _ from ho.out))
      clear hx hj hg hz hr ho hq hlen hstep hfz hbb hev hxo hk1 hf1 hxv hxs hxp hxf hk2 hf2 hxc hk3 hf3 hxi hk4 hf4 hxb hk5 hf5
      go_wp2_with fail
      (with_reducible refine (cAt_any g k L f _ (HRd.out.ext (by repeat (first | with_reducible exact Ext.refl _ | with_reducible refine Ext.drew ?_ | with_reducible refine Ext.drewN ?_ _ | with_reducible refine Ext.alloc ?_ _ | with_reducible refine Ext.setCell ?_ (by first | omega | (simp; done) | (simp; omega)) _)))).mono ?_)
      rintro e w_1 ⟨rfl, rfl⟩
      go_wp2_with fail
      (with_reducible refine (cRN_e g k k1 L f f1 0 63 xo (by decide) (by decide) (by decide) (by decide) hL Gxo.out Gk1.out Gf1.out _ (HRd.out.ext (by repeat (first | with_reducible exact Ext.refl _ | with_reducible refine Ext.drew ?_ | with_reducible refine Ext.drewN ?_ _ | with_reducible refine Ext.alloc ?_ _ | with_reducible refine Ext.setCell ?_ (by first | omega | (simp; done) | (simp; omega)) _)))).mono ?_)
      rintro e w51 ⟨rfl, hRd, hx51⟩
      have hsz51 := hx51.size
      try simp at hsz51
      replace y_0f : w51.frozen? ⟨w.heap.size, 0, none⟩ = false := hx51.froz (by show ¬ _ = _; first | assumption | omega) (v := .int .i64 0) (by first | exact y_0 | (simp [go_sem, World.cell?_alloc_past, y_0, y_0f, y_1, y_1f]; done)) (by first | exact y_0f | (simp [go_sem, World.cell?_alloc_past, y_0, y_0f, y_1, y_1f]; done))
      replace y_1f : w51.frozen? ⟨w.heap.size, 1, none⟩ = false := hx51.froz (by show ¬ _ = _; first | assumption | omega) (v := .int .i64 0) (by first | exact y_1 | (simp [go_sem, World.cell?_alloc_past, y_0, y_0f, y_1, y_1f]; done)) (by first | exact y_1f | (simp [go_sem, World.cell?_alloc_past, y_0, y_0f, y_1, y_1f]; done))
      replace y_0 : w51.cell? ⟨w.heap.size, 0, none⟩ = some (.int .i64 0) := hx51.has (by show ¬ _ = _; first | assumption | omega) (by first | exact y_0 | (simp [go_sem, World.cell?_alloc_past, y_0, y_0f, y_1, y_1f]; done))
      replace y_1 : w51.cell? ⟨w.heap.size, 1, none⟩ = some (.int .i64 0) := hx51.has (by show ¬ _ = _; first | assumption | omega) (by first | exact y_1 | (simp [go_sem, World.cell?_alloc_past, y_0, y_0f, y_1, y_1f]; done))
      have z51 := hx51.size
      try simp at z51
      have ry : w.heap.size < w51.heap.size := by omega
      have rya : w.heap.size < w51.heap.size + 1 := by omega
      have ryb : w.heap.size < w51.heap.size + 1 + 1 := by omega
      have ryc : w.heap.size < w51.heap.size + 1 + 1 + 1 := by omega
      have ryn : ¬ w.heap.size = w51.heap.size := by omega
      have X51 : Hid (Ext w w51) := Lib.hid (have hX := (show Ext w _ from (by repeat (first | with_reducible exact XR.out | with_reducible refine Ext.drew ?_ | with_reducible refine Ext.drewN ?_ _ | with_reducible refine Ext.alloc ?_ _ | with_reducible refine Ext.setCell ?_ (by first | omega | (simp; done) | (simp; omega)) _))); Below.trans hX (hx51.below (Ext.size hX) (fun k hk hh => by have hh2 : k = g := hh; omega)))
      replace HO := Lib.hid (OwnR.but (OwnR.butN HO.out (by repeat (first | with_reducible exact But.refl _ _ | with_reducible refine But.drew ?_ | with_reducible refine But.drewN ?_ _ | with_reducible refine But.alloc ?_ _ | with_reducible refine But.setCell ?_ (by first | exact Nat.le_refl _ | (dsimp only; omega)) _ | with_reducible refine But.setNew ?_ (by first | omega | (simp; done) | (simp; omega)) _))) hx51 (by intro j h1 h2 hh; have h3 : j = g := hh; omega))
      clear HRd
      have HRd := Lib.hid hRd
      clear hsz51 XR hx51 z51 hRd
      go_wp2_with fail
      (with_reducible refine (tTake_e g k1 k2 L f1 f2 xv xs xp xf hL Gxv.out Gxs.out Gxp.out Gxf.out Gk2.out Gf2.out _ (HRd.out.ext (by repeat (first | with_reducible exact Ext.refl _ | with_reducible refine Ext.drew ?_ | with_reducible refine Ext.drewN ?_ _ | with_reducible refine Ext.alloc ?_ _ | with_reducible refine Ext.setCell ?_ (by first | omega | (simp; done) | (simp; omega)) _)))).mono ?_)
      rintro e w52 ⟨rfl, hRd, hx52⟩
      have hsz52 := hx52.size
      try simp at hsz52
      replace y_0f : w52.frozen? ⟨w.heap.size, 0, none⟩ = false := hx52.froz (by show ¬ _ = _; first | assumption | omega) (v := .int .i64 0) (by first | exact y_0 | (simp [go_sem, World.cell?_alloc_past, y_0f, y_1f, y_0, y_1, ry, rya, ryb, ryc, ryn]; done)) (by first | exact y_0f | (simp [go_sem, World.cell?_alloc_past, y_0f, y_1f, y_0, y_1, ry, rya, ryb, ryc, ryn]; done))
      replace y_1f : w52.frozen? ⟨w.heap.size, 1, none⟩ = false := hx52.froz (by show ¬ _ = _; first | assumption | omega) (v := .int .i64 0) (by first | exact y_1 | (simp [go_sem, World.cell?_alloc_past, y_0f, y_1f, y_0, y_1, ry, rya, ryb, ryc, ryn]; done)) (by first | exact y_1f | (simp [go_sem, World.cell?_alloc_past, y_0f, y_1f, y_0, y_1, ry, rya, ryb, ryc, ryn]; done))
      replace y_0 : w52.cell? ⟨w.heap.size, 0, none⟩ = some (.int .i64 0) := hx52.has (by show ¬ _ = _; first | assumption | omega) (by first | exact y_0 | (simp [go_sem, World.cell?_alloc_past, y_0f, y_1f, y_0, y_1, ry, rya, ryb, ryc, ryn]; done))
      replace y_1 : w52.cell? ⟨w.heap.size, 1, none⟩ = some (.int .i64 0) := hx52.has (by show ¬ _ = _; first | assumption | omega) (by first | exact y_1 | (simp [go_sem, World.cell?_alloc_past, y_0f, y_1f, y_0, y_1, ry, rya, ryb, ryc, ryn]; done))
      have z52 := hx52.size
      try simp at z52
      replace ry : w.heap.size < w52.heap.size := by omega
      replace rya : w.heap.size < w52.heap.size + 1 := by omega
      replace ryb : w.heap.size < w52.heap.size + 1 + 1 := by omega
      replace ryc : w.heap.size < w52.heap.size + 1 + 1 + 1 := by omega
      replace ryn : ¬ w.heap.size = w52.heap.size := by omega
      have X52 : Hid (Ext w w52) := Lib.hid (have hX := (show Ext w _ from (by repeat (first | with_reducible exact X51.out | with_reducible refine Ext.drew ?_ | with_reducible refine Ext.drewN ?_ _ | with_reducible refine Ext.alloc ?_ _ | with_reducible refine Ext.setCell ?_ (by first | omega | (simp; done) | (simp; omega)) _))); Below.trans hX (hx52.below (Ext.size hX) (fun k hk hh => by have hh2 : k = g := hh; omega)))
      replace HO := Lib.hid (OwnR.but (OwnR.butN HO.out (by repeat (first | with_reducible exact But.refl _ _ | with_reducible refine But.drew ?_ | with_reducible refine But.drewN ?_ _ | with_reducible refine But.alloc ?_ _ | with_reducible refine But.setCell ?_ (by first | exact Nat.le_refl _ | (dsimp only; omega)) _ | with_reducible refine But.setNew ?_ (by first | omega | (simp; done) | (simp; omega)) _))) hx52 (by intro j h1 h2 hh; have h3 : j = g := hh; omega))
      clear HRd
      have HRd := Lib.hid hRd
      clear hsz52 X51 hx52 z52 hRd
      have hgl4 := HRd.out.lt
      replace HO := Lib.hid HO.out.raise
      go_wp2_with fail
      (with_reducible refine (cRN_Te (w52.heap.size) g k2 k3 L f2 f3 1 4294967296 xc (by decide) (by decide) (by decide) (by decide) hL Gxc.out Gk3.out Gf3.out _ (RdT.new HRd.out _ _ (by decide))).mono ?_)
      rintro e w53 ⟨rfl, hRd, hx53⟩
      have hsz53 := hx53.size
      try simp at hsz53
      replace y_0f : w53.frozen? ⟨w.heap.size, 0, none⟩ = false := hx53.froz (by show ¬ _ = _; first | assumption | omega) (v := .int .i64 0) (by first | exact y_0 | (simp [go_sem, World.cell?_alloc_past, y_0f, y_1f, y_0, y_1, ry, rya, ryb, ryc, ryn]; done)) (by first | exact y_0f | (simp [go_sem, World.cell?_alloc_past, y_0f, y_1f, y_0, y_1, ry, rya, ryb, ryc, ryn]; done))
      replace y_1f : w53.frozen? ⟨w.heap.size, 1, none⟩ = false := hx53.froz (by show ¬ _ = _; first | assumption | omega) (v := .int .i64 0) (by first | exact y_1 | (simp [go_sem, World.cell?_alloc_past, y_0f, y_1f, y_0, y_1, ry, rya, ryb, ryc, ryn]; done)) (by first | exact y_1f | (simp [go_sem, World.cell?_alloc_past, y_0f, y_1f, y_0, y_1, ry, rya, ryb, ryc, ryn]; done))
      replace y_0 : w53.cell? ⟨w.heap.size, 0, none⟩ = some (.int .i64 0) := hx53.has (by show ¬ _ = _; first | assumption | omega) (by first | exact y_0 | (simp [go_sem, World.cell?_alloc_past, y_0f, y_1f, y_0, y_1, ry, rya, ryb, ryc, ryn]; done))
      replace y_1 : w53.cell? ⟨w.heap.size, 1, none⟩ = some (.int .i64 0) := hx53.has (by show ¬ _ = _; first | assumption | omega) (by first | exact y_1 | (simp [go_sem, World.cell?_alloc_past, y_0f, y_1f, y_0, y_1, ry, rya, ryb, ryc, ryn]; done))
      have c0_5f : w53.frozen? ⟨w52.heap.size, 5, none⟩ = false := hx53.froz (by show ¬ _ = _; first | assumption | omega) (v := .int .i64 0) (by first | fail | (simp [go_sem, World.cell?_alloc_past, y_0f, y_1f, y_0, y_1, ry, rya, ryb, ryc, ryn]; done)) (by first | fail | (simp [go_sem, World.cell?_alloc_past, y_0f, y_1f, y_0, y_1, ry, rya, ryb, ryc, ryn]; done))
      have c0_6f : w53.frozen? ⟨w52.heap.size, 6, none⟩ = false := hx53.froz (by show ¬ _ = _; first | assumption | omega) (v := .int .u64 0) (by first | fail | (simp [go_sem, World.cell?_alloc_past, y_0f, y_1f, y_0, y_1, ry, rya, ryb, ryc, ryn]; done)) (by first | fail | (simp [go_sem, World.cell?_alloc_past, y_0f, y_1f, y_0, y_1, ry, rya, ryb, ryc, ryn]; done))
      have c0_7f : w53.frozen? ⟨w52.heap.size, 7, none⟩ = false := hx53.froz (by show ¬ _ = _; first | assumption | omega) (v := .int .u64 0) (by first | fail | (simp [go_sem, World.cell?_alloc_past, y_0f, y_1f, y_0, y_1, ry, rya, ryb, ryc, ryn]; done)) (by first | fail | (simp [go_sem, World.cell?_alloc_past, y_0f, y_1f, y_0, y_1, ry, rya, ryb, ryc, ryn]; done))
      have c0_0 : w53.cell? ⟨w52.heap.size, 0, none⟩ = some (.int .i64 xo) := hx53.has (by show ¬ _ = _; first | assumption | omega) (by first | fail | (simp [go_sem, World.cell?_alloc_past, y_0f, y_1f, y_0, y_1, ry, rya, ryb, ryc, ryn]; done))
      have c0_1 : w53.cell? ⟨w52.heap.size, 1, none⟩ = some (.int .i64 xv) := hx53.has (by show ¬ _ = _; first | assumption | omega) (by first | fail | (simp [go_sem, World.cell?_alloc_past, y_0f, y_1f, y_0, y_1, ry, rya, ryb, ryc, ryn]; done))
      have c0_2 : w53.cell? ⟨w52.heap.size, 2, none⟩ = some (.int .i64 xs) := hx53.has (by show ¬ _ = _; first | assumption | omega) (by first | fail | (simp [go_sem, World.cell?_alloc_past, y_0f, y_1f, y_0, y_1, ry, rya, ryb, ryc, ryn]; done))
      have c0_3 : w53.cell? ⟨w52.heap.size, 3, none⟩ = some (.int .i64 xp) := hx53.has (by show ¬ _ = _; first | assumption | omega) (by first | fail | (simp [go_sem, World.cell?_alloc_past, y_0f, y_1f, y_0, y_1, ry, rya, ryb, ryc, ryn]; done))
      have c0_4 : w53.cell? ⟨w52.heap.size, 4, none⟩ = some (.int .i64 xf) := hx53.has (by show ¬ _ = _; first | assumption | omega) (by first | fail | (simp [go_sem, World.cell?_alloc_past, y_0f, y_1f, y_0, y_1, ry, rya, ryb, ryc, ryn]; done))
      have c0_5 : w53.cell? ⟨w52.heap.size, 5, none⟩ = some (.int .i64 0) := hx53.has (by show ¬ _ = _; first | assumption | omega) (by first | fail | (simp [go_sem, World.cell?_alloc_past, y_0f, y_1f, y_0, y_1, ry, rya, ryb, ryc, ryn]; done))
      have c0_6 : w53.cell? ⟨w52.heap.size, 6, none⟩ = some (.int .u64 0) := hx53.has (by show ¬ _ = _; first | assumption | omega) (by first | fail | (simp [go_sem, World.cell?_alloc_past, y_0f, y_1f, y_0, y_1, ry, rya, ryb, ryc, ryn]; done))
      have c0_7 : w53.cell? ⟨w52.heap.size, 7, none⟩ = some (.int .u64 0) := hx53.has (by show ¬ _ = _; first | assumption | omega) (by first | fail | (simp [go_sem, World.cell?_alloc_past, y_0f, y_1f, y_0, y_1, ry, rya, ryb, ryc, ryn]; done))
      have z53 := hx53.size
      try simp at z53
      have lt_y_c0 : w.heap.size < w52.heap.size := by omega
      have ne_y_c0 : ¬ w.heap.size = w52.heap.size := by omega
      have ne_c0_y : ¬ w52.heap.size = w.heap.size := by omega
      replace ry : w.heap.size < w53.heap.size := by omega
      replace rya : w.heap.size < w53.heap.size + 1 := by omega
      replace ryb : w.heap.size < w53.heap.size + 1 + 1 := by omega
      replace ryc : w.heap.size < w53.heap.size + 1 + 1 + 1 := by omega
      replace ryn : ¬ w.heap.size = w53.heap.size := by omega
      have rc0 : w52.heap.size < w53.heap.size := by omega
      have rc0a : w52.heap.size < w53.heap.size + 1 := by omega
      have rc0b : w52.heap.size < w53.heap.size + 1 + 1 := by omega
      have rc0c : w52.heap.size < w53.heap.size + 1 + 1 + 1 := by omega
      have rc0n : ¬ w52.heap.size = w53.heap.size := by omega
      have X53 : Hid (Ext w w53) := Lib.hid (have hX := (show Ext w _ from (by repeat (first | with_reducible exact X52.out | with_reducible refine Ext.drew ?_ | with_reducible refine Ext.drewN ?_ _ | with_reducible refine Ext.alloc ?_ _ | with_reducible refine Ext.setCell ?_ (by first | omega | (simp; done) | (simp; omega)) _))); Below.trans hX (hx53.below (Ext.size hX) (fun k hk hh => by have hh2 : k = g := hh; omega)))
      replace HO := Lib.hid (OwnR.but (OwnR.butN HO.out (by repeat (first | with_reducible exact But.refl _ _ | with_reducible refine But.drew ?_ | with_reducible refine But.drewN ?_ _ | with_reducible refine But.alloc ?_ _ | with_reducible refine But.setCell ?_ (by first | exact Nat.le_refl _ | (dsimp only; omega)) _ | with_reducible refine But.setNew ?_ (by first | omega | (simp; done) | (simp; omega)) _))) hx53 (by intro j h1 h2 hh; have h3 : j = g := hh; omega))
      have HT := Lib.hid hRd
      clear HRd hsz53 X52 hx53 z53 hRd
      go_wp2_with fail
      (with_reducible refine (cU_Te (w52.heap.size) g k3 k4 L f3 f4 xi hL Gxi.out Gk4.out Gf4.out _ (RdT.set HT.out rfl _)).mono ?_)
      rintro e w54 ⟨rfl, hRd, hx54⟩
      have hsz54 := hx54.size
      try simp at hsz54
      replace y_0f : w54.frozen? ⟨w.heap.size, 0, none⟩ = false := hx54.froz (by show ¬ _ = _; first | assumption | omega) (v := .int .i64 0) (by first | exact y_0 | (simp [go_sem, World.cell?_alloc_past, y_0f, y_1f, y_0, y_1, c0_5f, c0_6f, c0_7f, c0_0, c0_1, c0_2, c0_3, c0_4, c0_5, c0_6, c0_7, ne_y_c0, ne_c0_y, ry, rya, ryb, ryc, ryn, rc0, rc0a, rc0b, rc0c, rc0n]; done)) (by first | exact y_0f | (simp [go_sem, World.cell?_alloc_past, y_0f, y_1f, y_0, y_1, c0_5f, c0_6f, c0_7f, c0_0, c0_1, c0_2, c0_3, c0_4, c0_5, c0_6, c0_7, ne_y_c0, ne_c0_y, ry, rya, ryb, ryc, ryn, rc0, rc0a, rc0b, rc0c, rc0n]; done))
      replace y_1f : w54.frozen? ⟨w.heap.size, 1, none⟩ = false := hx54.froz (by show ¬ _ = _; first | assumption | omega) (v := .int .i64 0) (by first | exact y_1 | (simp [go_sem, World.cell?_alloc_past, y_0f, y_1f, y_0, y_1, c0_5f, c0_6f, c0_7f, c0_0, c0_1, c0_2, c0_3, c0_4, c0_5, c0_6, c0_7, ne_y_c0, ne_c0_y, ry, rya, ryb, ryc, ryn, rc0, rc0a, rc0b, rc0c, rc0n]; done)) (by first | exact y_1f | (simp [go_sem, World.cell?_alloc_past, y_0f, y_1f, y_0, y_1, c0_5f, c0_6f, c0_7f, c0_0, c0_1, c0_2, c0_3, c0_4, c0_5, c0_6, c0_7, ne_y_c0, ne_c0_y, ry, rya, ryb, ryc, ryn, rc0, rc0a, rc0b, rc0c, rc0n]; done))
      replace y_0 : w54.cell? ⟨w.heap.size, 0, none⟩ = some (.int .i64 0) := hx54.has (by show ¬ _ = _; first | assumption | omega) (by first | exact y_0 | (simp [go_sem, World.cell?_alloc_past, y_0f, y_1f, y_0, y_1, c0_5f, c0_6f, c0_7f, c0_0, c0_1, c0_2, c0_3, c0_4, c0_5, c0_6, c0_7, ne_y_c0, ne_c0_y, ry, rya, ryb, ryc, ryn, rc0, rc0a, rc0b, rc0c, rc0n]; done))
      replace y_1 : w54.cell? ⟨w.heap.size, 1, none⟩ = some (.int .i64 0) := hx54.has (by show ¬ _ = _; first | assumption | omega) (by first | exact y_1 | (simp [go_sem, World.cell?_alloc_past, y_0f, y_1f, y_0, y_1, c0_5f, c0_6f, c0_7f, c0_0, c0_1, c0_2, c0_3, c0_4, c0_5, c0_6, c0_7, ne_y_c0, ne_c0_y, ry, rya, ryb, ryc, ryn, rc0, rc0a, rc0b, rc0c, rc0n]; done))
      replace c0_6f : w54.frozen? ⟨w52.heap.size, 6, none⟩ = false := hx54.froz (by show ¬ _ = _; first | assumption | omega) (v := .int .u64 0) (by first | exact c0_6 | (simp [go_sem, World.cell?_alloc_past, y_0f, y_1f, y_0, y_1, c0_5f, c0_6f, c0_7f, c0_0, c0_1, c0_2, c0_3, c0_4, c0_5, c0_6, c0_7, ne_y_c0, ne_c0_y, ry, rya, ryb, ryc, ryn, rc0, rc0a, rc0b, rc0c, rc0n]; done)) (by first | exact c0_6f | (simp [go_sem, World.cell?_alloc_past, y_0f, y_1f, y_0, y_1, c0_5f, c0_6f, c0_7f, c0_0, c0_1, c0_2, c0_3, c0_4, c0_5, c0_6, c0_7, ne_y_c0, ne_c0_y, ry, rya, ryb, ryc, ryn, rc0, rc0a, rc0b, rc0c, rc0n]; done))
      replace c0_7f : w54.frozen? ⟨w52.heap.size, 7, none⟩ = false := hx54.froz (by show ¬ _ = _; first | assumption | omega) (v := .int .u64 0) (by first | exact c0_7 | (simp [go_sem, World.cell?_alloc_past, y_0f, y_1f, y_0, y_1, c0_5f, c0_6f, c0_7f, c0_0, c0_1, c0_2, c0_3, c0_4, c0_5, c0_6, c0_7, ne_y_c0, ne_c0_y, ry, rya, ryb, ryc, ryn, rc0, rc0a, rc0b, rc0c, rc0n]; done)) (by first | exact c0_7f | (simp [go_sem, World.cell?_alloc_past, y_0f, y_1f, y_0, y_1, c0_5f, c0_6f, c0_7f, c0_0, c0_1, c0_2, c0_3, c0_4, c0_5, c0_6, c0_7, ne_y_c0, ne_c0_y, ry, rya, ryb, ryc, ryn, rc0, rc0a, rc0b, rc0c, rc0n]; done))
      replace c0_0 : w54.cell? ⟨w52.heap.size, 0, none⟩ = some (.int .i64 xo) := hx54.has (by show ¬ _ = _; first | assumption | omega) (by first | exact c0_0 | (simp [go_sem, World.cell?_alloc_past, y_0f, y_1f, y_0, y_1, c0_5f, c0_6f, c0_7f, c0_0, c0_1, c0_2, c0_3, c0_4, c0_5, c0_6, c0_7, ne_y_c0, ne_c0_y, ry, rya, ryb, ryc, ryn, rc0, rc0a, rc0b, rc0c, rc0n]; done))
      replace c0_1 : w54.cell? ⟨w52.heap.size, 1, none⟩ = some (.int .i64 xv) := hx54.has (by show ¬ _ = _; first | assumption | omega) (by first | exact c0_1 | (simp [go_sem, World.cell?_alloc_past, y_0f, y_1f, y_0, y_1, c0_5f, c0_6f, c0_7f, c0_0, c0_1, c0_2, c0_3, c0_4, c0_5, c0_6, c0_7, ne_y_c0, ne_c0_y, ry, rya, ryb, ryc, ryn, rc0, rc0a, rc0b, rc0c, rc0n]; done))
      replace c0_2 : w54.cell? ⟨w52.heap.size, 2, none⟩ = some (.int .i64 xs) := hx54.has (by show ¬ _ = _; first | assumption | omega) (by first | exact c0_2 | (simp [go_sem, World.cell?_alloc_past, y_0f, y_1f, y_0, y_1, c0_5f, c0_6f, c0_7f, c0_0, c0_1, c0_2, c0_3, c0_4, c0_5, c0_6, c0_7, ne_y_c0, ne_c0_y, ry, rya, ryb, ryc, ryn, rc0, rc0a, rc0b, rc0c, rc0n]; done))
      replace c0_3 : w54.cell? ⟨w52.heap.size, 3, none⟩ = some (.int .i64 xp) := hx54.has (by show ¬ _ = _; first | assumption | omega) (by first | exact c0_3 | (simp [go_sem, World.cell?_alloc_past, y_0f, y_1f, y_0, y_1, c0_5f, c0_6f, c0_7f, c0_0, c0_1, c0_2, c0_3, c0_4, c0_5, c0_6, c0_7, ne_y_c0, ne_c0_y, ry, rya, ryb, ryc, ryn, rc0, rc0a, rc0b, rc0c, rc0n]; done))
      replace c0_4 : w54.cell? ⟨w52.heap.size, 4, none⟩ = some (.int .i64 xf) := hx54.has (by show ¬ _ = _; first | assumption | omega) (by first | exact c0_4 | (simp [go_sem, World.cell?_alloc_past, y_0f, y_1f, y_0, y_1, c0_5f, c0_6f, c0_7f, c0_0, c0_1, c0_2, c0_3, c0_4, c0_5, c0_6, c0_7, ne_y_c0, ne_c0_y, ry, rya, ryb, ryc, ryn, rc0, rc0a, rc0b, rc0c, rc0n]; done))
      replace c0_5 : w54.cell? ⟨w52.heap.size, 5, none⟩ = some (.int .i64 xc) := hx54.has (by show ¬ _ = _; first | assumption | omega) (by first | exact c0_5 | (simp [go_sem, World.cell?_alloc_past, y_0f, y_1f, y_0, y_1, c0_5f, c0_6f, c0_7f, c0_0, c0_1, c0_2, c0_3, c0_4, c0_5, c0_6, c0_7, ne_y_c0, ne_c0_y, ry, rya, ryb, ryc, ryn, rc0, rc0a, rc0b, rc0c, rc0n]; done))
      replace c0_6 : w54.cell? ⟨w52.heap.size, 6, none⟩ = some (.int .u64 0) := hx54.has (by show ¬ _ = _; first | assumption | omega) (by first | exact c0_6 | (simp [go_sem, World.cell?_alloc_past, y_0f, y_1f, y_0, y_1, c0_5f, c0_6f, c0_7f, c0_0, c0_1, c0_2, c0_3, c0_4, c0_5, c0_6, c0_7, ne_y_c0, ne_c0_y, ry, rya, ryb, ryc, ryn, rc0, rc0a, rc0b, rc0c, rc0n]; done))
      replace c0_7 : w54.cell? ⟨w52.heap.size, 7, none⟩ = some (.int .u64 0) := hx54.has (by show ¬ _ = _; first | assumption | omega) (by first | exact c0_7 | (simp [go_sem, World.cell?_alloc_past, y_0f, y_1f, y_0, y_1, c0_5f, c0_6f, c0_7f, c0_0, c0_1, c0_2, c0_3, c0_4, c0_5, c0_6, c0_7, ne_y_c0, ne_c0_y, ry, rya, ryb, ryc, ryn, rc0, rc0a, rc0b, rc0c, rc0n]; done))
      have z54 := hx54.size
      try simp at z54
      replace ry : w.heap.size < w54.heap.size := by omega
      replace rya : w.heap.size < w54.heap.size + 1 := by omega
      replace ryb : w.heap.size < w54.heap.size + 1 + 1 := by omega
      replace ryc : w.heap.size < w54.heap.size + 1 + 1 + 1 := by omega
      replace ryn : ¬ w.heap.size = w54.heap.size := by omega
      replace rc0 : w52.heap.size < w54.heap.size := by omega
      replace rc0a : w52.heap.size < w54.heap.size + 1 := by omega
      replace rc0b : w52.heap.size < w54.heap.size + 1 + 1 := by omega
      replace rc0c : w52.heap.size < w54.heap.size + 1 + 1 + 1 := by omega
      replace rc0n : ¬ w52.heap.size = w54.heap.size := by omega
      have X54 : Hid (Ext w w54) := Lib.hid (have hX := (show Ext w _ from (by repeat (first | with_reducible exact X53.out | with_reducible refine Ext.drew ?_ | with_reducible refine Ext.drewN ?_ _ | with_reducible refine Ext.alloc ?_ _ | with_reducible refine Ext.setCell ?_ (by first | omega | (simp; done) | (simp; omega)) _))); Below.trans hX (hx54.below (Ext.size hX) (fun k hk hh => by have hh2 : k = g := hh; omega)))
      replace HO := Lib.hid (OwnR.but (OwnR.butN HO.out (by repeat (first | with_reducible exact But.refl _ _ | with_reducible refine But.drew ?_ | with_reducible refine But.drewN ?_ _ | with_reducible refine But.alloc ?_ _ | with_reducible refine But.setCell ?_ (by first | exact Nat.le_refl _ | (dsimp only; omega)) _ | with_reducible refine But.setNew ?_ (by first | omega | (simp; done) | (simp; omega)) _))) hx54 (by intro j h1 h2 hh; have h3 : j = g := hh; omega))
      clear HT
      have HT := Lib.hid hRd
      clear c0_5f hsz54 X53 hx54 z54 hRd
      go_wp2_with fail
      (with_reducible refine (cU_Te (w52.heap.size) g k4 k5 L f4 f5 xb hL Gxb.out Gk5.out Gf5.out _ (RdT.set HT.out rfl _)).mono ?_)
      rintro e w55 ⟨rfl, hRd, hx55⟩
      have hsz55 := hx55.size
      try simp at hsz55
      replace y_0f : w55.frozen? ⟨w.heap.size, 0, none⟩ = false := hx55.froz (by show ¬ _ = _; first | assumption | omega) (v := .int .i64 0) (by first | exact y_0 | (simp [go_sem, World.cell?_alloc_past, y_0f, y_1f, y_0, y_1, c0_6f, c0_7f, c0_0, c0_1, c0_2, c0_3, c0_4, c0_5, c0_6, c0_7, ne_y_c0, ne_c0_y, ry, rya, ryb, ryc, ryn, rc0, rc0a, rc0b, rc0c, rc0n]; done)) (by first | exact y_0f | (simp [go_sem, World.cell?_alloc_past, y_0f, y_1f, y_0, y_1, c0_6f, c0_7f, c0_0, c0_1, c0_2, c0_3, c0_4, c0_5, c0_6, c0_7, ne_y_c0, ne_c0_y, ry, rya, ryb, ryc, ryn, rc0, rc0a, rc0b, rc0c, rc0n]; done))
      replace y_1f : w55.frozen? ⟨w.heap.size, 1, none⟩ = false := hx55.froz (by show ¬ _ = _; first | assumption | omega) (v := .int .i64 0) (by first | exact y_1 | (simp [go_sem, World.cell?_alloc_past, y_0f, y_1f, y_0, y_1, c0_6f, c0_7f, c0_0, c0_1, c0_2, c0_3, c0_4, c0_5, c0_6, c0_7, ne_y_c0, ne_c0_y, ry, rya, ryb, ryc, ryn, rc0, rc0a, rc0b, rc0c, rc0n]; done)) (by first | exact y_1f | (simp [go_sem, World.cell?_alloc_past, y_0f, y_1f, y_0, y_1, c0_6f, c0_7f, c0_0, c0_1, c0_2, c0_3, c0_4, c0_5, c0_6, c0_7, ne_y_c0, ne_c0_y, ry, rya, ryb, ryc, ryn, rc0, rc0a, rc0b, rc0c, rc0n]; done))
      replace y_0 : w55.cell? ⟨w.heap.size, 0, none⟩ = some (.int .i64 0) := hx55.has (by show ¬ _ = _; first | assumption | omega) (by first | exact y_0 | (simp [go_sem, World.cell?_alloc_past, y_0f, y_1f, y_0, y_1, c0_6f, c0_7f, c0_0, c0_1, c0_2, c0_3, c0_4, c0_5, c0_6, c0_7, ne_y_c0, ne_c0_y, ry, rya, ryb, ryc, ryn, rc0, rc0a, rc0b, rc0c, rc0n]; done))
      replace y_1 : w55.cell? ⟨w.heap.size, 1, none⟩ = some (.int .i64 0) := hx55.has (by show ¬ _ = _; first | assumption | omega) (by first | exact y_1 | (simp [go_sem, World.cell?_alloc_past, y_0f, y_1f, y_0, y_1, c0_6f, c0_7f, c0_0, c0_1, c0_2, c0_3, c0_4, c0_5, c0_6, c0_7, ne_y_c0, ne_c0_y, ry, rya, ryb, ryc, ryn, rc0, rc0a, rc0b, rc0c, rc0n]; done))
      replace c0_7f : w55.frozen? ⟨w52.heap.size, 7, none⟩ = false := hx55.froz (by show ¬ _ = _; first | assumption | omega) (v := .int .u64 0) (by first | exact c0_7 | (simp [go_sem, World.cell?_alloc_past, y_0f, y_1f, y_0, y_1, c0_6f, c0_7f, c0_0, c0_1, c0_2, c0_3, c0_4, c0_5, c0_6, c0_7, ne_y_c0, ne_c0_y, ry, rya, ryb, ryc, ryn, rc0, rc0a, rc0b, rc0c, rc0n]; done)) (by first | exact c0_7f | (simp [go_sem, World.cell?_alloc_past, y_0f, y_1f, y_0, y_1, c0_6f, c0_7f, c0_0, c0_1, c0_2, c0_3, c0_4, c0_5, c0_6, c0_7, ne_y_c0, ne_c0_y, ry, rya, ryb, ryc, ryn, rc0, rc0a, rc0b, rc0c, rc0n]; done))
      replace c0_0 : w55.cell? ⟨w52.heap.size, 0, none⟩ = some (.int .i64 xo) := hx55.has (by show ¬ _ = _; first | assumption | omega) (by first | exact c0_0 | (simp [go_sem, World.cell?_alloc_past, y_0f, y_1f, y_0, y_1, c0_6f, c0_7f, c0_0, c0_1, c0_2, c0_3, c0_4, c0_5, c0_6, c0_7, ne_y_c0, ne_c0_y, ry, rya, ryb, ryc, ryn, rc0, rc0a, rc0b, rc0c, rc0n]; done))
      replace c0_1 : w55.cell? ⟨w52.heap.size, 1, none⟩ = some (.int .i64 xv) := hx55.has (by show ¬ _ = _; first | assumption | omega) (by first | exact c0_1 | (simp [go_sem, World.cell?_alloc_past, y_0f, y_1f, y_0, y_1, c0_6f, c0_7f, c0_0, c0_1, c0_2, c0_3, c0_4, c0_5, c0_6, c0_7, ne_y_c0, ne_c0_y, ry, rya, ryb, ryc, ryn, rc0, rc0a, rc0b, rc0c, rc0n]; done))
      replace c0_2 : w55.cell? ⟨w52.heap.size, 2, none⟩ = some (.int .i64 xs) := hx55.has (by show ¬ _ = _; first | assumption | omega) (by first | exact c0_2 | (simp [go_sem, World.cell?_alloc_past, y_0f, y_1f, y_0, y_1, c0_6f, c0_7f, c0_0, c0_1, c0_2, c0_3, c0_4, c0_5, c0_6, c0_7, ne_y_c0, ne_c0_y, ry, rya, ryb, ryc, ryn, rc0, rc0a, rc0b, rc0c, rc0n]; done))
      replace c0_3 : w55.cell? ⟨w52.heap.size, 3, none⟩ = some (.int .i64 xp) := hx55.has (by show ¬ _ = _; first | assumption | omega) (by first | exact c0_3 | (simp [go_sem, World.cell?_alloc_past, y_0f, y_1f, y_0, y_1, c0_6f, c0_7f, c0_0, c0_1, c0_2, c0_3, c0_4, c0_5, c0_6, c0_7, ne_y_c0, ne_c0_y, ry, rya, ryb, ryc, ryn, rc0, rc0a, rc0b, rc0c, rc0n]; done))
      replace c0_4 : w55.cell? ⟨w52.heap.size, 4, none⟩ = some (.int .i64 xf) := hx55.has (by show ¬ _ = _; first | assumption | omega) (by first | exact c0_4 | (simp [go_sem, World.cell?_alloc_past, y_0f, y_1f, y_0, y_1, c0_6f, c0_7f, c0_0, c0_1, c0_2, c0_3, c0_4, c0_5, c0_6, c0_7, ne_y_c0, ne_c0_y, ry, rya, ryb, ryc, ryn, rc0, rc0a, rc0b, rc0c, rc0n]; done))
      replace c0_5 : w55.cell? ⟨w52.heap.size, 5, none⟩ = some (.int .i64 xc) := hx55.has (by show ¬ _ = _; first | assumption | omega) (by first | exact c0_5 | (simp [go_sem, World.cell?_alloc_past, y_0f, y_1f, y_0, y_1, c0_6f, c0_7f, c0_0, c0_1, c0_2, c0_3, c0_4, c0_5, c0_6, c0_7, ne_y_c0, ne_c0_y, ry, rya, ryb, ryc, ryn, rc0, rc0a, rc0b, rc0c, rc0n]; done))
      replace c0_6 : w55.cell? ⟨w52.heap.size, 6, none⟩ = some (.int .u64 xi) := hx55.has (by show ¬ _ = _; first | assumption | omega) (by first | exact c0_6 | (simp [go_sem, World.cell?_alloc_past, y_0f, y_1f, y_0, y_1, c0_6f, c0_7f, c0_0, c0_1, c0_2, c0_3, c0_4, c0_5, c0_6, c0_7, ne_y_c0, ne_c0_y, ry, rya, ryb, ryc, ryn, rc0, rc0a, rc0b, rc0c, rc0n]; done))
      replace c0_7 : w55.cell? ⟨w52.heap.size, 7, none⟩ = some (.int .u64 0) := hx55.has (by show ¬ _ = _; first | assumption | omega) (by first | exact c0_7 | (simp [go_sem, World.cell?_alloc_past, y_0f, y_1f, y_0, y_1, c0_6f, c0_7f, c0_0, c0_1, c0_2, c0_3, c0_4, c0_5, c0_6, c0_7, ne_y_c0, ne_c0_y, ry, rya, ryb, ryc, ryn, rc0, rc0a, rc0b, rc0c, rc0n]; done))
      have z55 := hx55.size
      try simp at z55
      replace ry : w.heap.size < w55.heap.size := by omega
      replace rya : w.heap.size < w55.heap.size + 1 := by omega
      replace ryb : w.heap.size < w55.heap.size + 1 + 1 := by omega
      replace ryc : w.heap.size < w55.heap.size + 1 + 1 + 1 := by omega
      replace ryn : ¬ w.heap.size = w55.heap.size := by omega
      replace rc0 : w52.heap.size < w55.heap.size := by omega
      replace rc0a : w52.heap.size < w55.heap.size + 1 := by omega
      replace rc0b : w52.heap.size < w55.heap.size + 1 + 1 := by omega
      replace rc0c : w52.heap.size < w55.heap.size + 1 + 1 + 1 := by omega
      replace rc0n : ¬ w52.heap.size = w55.heap.size := by omega
      have X55 : Hid (Ext w w55) := Lib.hid (have hX := (show Ext w _ from (by repeat (first | with_reducible exact X54.out | with_reducible refine Ext.drew ?_ | with_reducible refine Ext.drewN ?_ _ | with_reducible refine Ext.alloc ?_ _ | with_reducible refine Ext.setCell ?_ (by first | omega | (simp; done) | (simp; omega)) _))); Below.trans hX (hx55.below (Ext.size hX) (fun k hk hh => by have hh2 : k = g := hh; omega)))
      replace HO := Lib.hid (OwnR.but (OwnR.butN HO.out (by repeat (first | with_reducible exact But.refl _ _ | with_reducible refine But.drew ?_ | with_reducible refine But.drewN ?_ _ | with_reducible refine But.alloc ?_ _ | with_reducible refine But.setCell ?_ (by first | exact Nat.le_refl _ | (dsimp only; omega)) _ | with_reducible refine But.setNew ?_ (by first | omega | (simp; done) | (simp; omega)) _))) hx55 (by intro j h1 h2 hh; have h3 : j = g := hh; omega))
      clear HT
      have HT := Lib.hid hRd
      clear c0_6f hsz55 X54 hx55 z55 hRd
      go_wp2_with fail
      (with_reducible refine (qfaulty_e g k5 L f5 bb _ ((RdT.set HT.out rfl _)).rd hL GB.out).mono ?_)
      rintro e w56 ⟨rfl, hx56⟩
      replace y_0f : w56.frozen? ⟨w.heap.size, 0, none⟩ = false := hx56.froz (v := .int .i64 0) (by first | exact y_0 | (simp [go_sem, World.cell?_alloc_past, y_0f, y_1f, y_0, y_1, c0_7f, c0_0, c0_1, c0_2, c0_3, c0_4, c0_5, c0_6, c0_7, ne_y_c0, ne_c0_y, ry, rya, ryb, ryc, ryn, rc0, rc0a, rc0b, rc0c, rc0n]; done)) (by first | exact y_0f | (simp [go_sem, World.cell?_alloc_past, y_0f, y_1f, y_0, y_1, c0_7f, c0_0, c0_1, c0_2, c0_3, c0_4, c0_5, c0_6, c0_7, ne_y_c0, ne_c0_y, ry, rya, ryb, ryc, ryn, rc0, rc0a, rc0b, rc0c, rc0n]; done))
      replace y_1f : w56.frozen? ⟨w.heap.size, 1, none⟩ = false := hx56.froz (v := .int .i64 0) (by first | exact y_1 | (simp [go_sem, World.cell?_alloc_past, y_0f, y_1f, y_0, y_1, c0_7f, c0_0, c0_1, c0_2, c0_3, c0_4, c0_5, c0_6, c0_7, ne_y_c0, ne_c0_y, ry, rya, ryb, ryc, ryn, rc0, rc0a, rc0b, rc0c, rc0n]; done)) (by first | exact y_1f | (simp [go_sem, World.cell?_alloc_past, y_0f, y_1f, y_0, y_1, c0_7f, c0_0, c0_1, c0_2, c0_3, c0_4, c0_5, c0_6, c0_7, ne_y_c0, ne_c0_y, ry, rya, ryb, ryc, ryn, rc0, rc0a, rc0b, rc0c, rc0n]; done))
      replace y_0 : w56.cell? ⟨w.heap.size, 0, none⟩ = some (.int .i64 0) := hx56.has (by first | exact y_0 | (simp [go_sem, World.cell?_alloc_past, y_0f, y_1f, y_0, y_1, c0_7f, c0_0, c0_1, c0_2, c0_3, c0_4, c0_5, c0_6, c0_7, ne_y_c0, ne_c0_y, ry, rya, ryb, ryc, ryn, rc0, rc0a, rc0b, rc0c, rc0n]; done))
      replace y_1 : w56.cell? ⟨w.heap.size, 1, none⟩ = some (.int .i64 0) := hx56.has (by first | exact y_1 | (simp [go_sem, World.cell?_alloc_past, y_0f, y_1f, y_0, y_1, c0_7f, c0_0, c0_1, c0_2, c0_3, c0_4, c0_5, c0_6, c0_7, ne_y_c0, ne_c0_y, ry, rya, ryb, ryc, ryn, rc0, rc0a, rc0b, rc0c, rc0n]; done))
      replace c0_0 : w56.cell? ⟨w52.heap.size, 0, none⟩ = some (.int .i64 xo) := hx56.has (by first | exact c0_0 | (simp [go_sem, World.cell?_alloc_past, y_0f, y_1f, y_0, y_1, c0_7f, c0_0, c0_1, c0_2, c0_3, c0_4, c0_5, c0_6, c0_7, ne_y_c0, ne_c0_y, ry, rya, ryb, ryc, ryn, rc0, rc0a, rc0b, rc0c, rc0n]; done))
      replace c0_1 : w56.cell? ⟨w52.heap.size, 1, none⟩ = some (.int .i64 xv) := hx56.has (by first | exact c0_1 | (simp [go_sem, World.cell?_alloc_past, y_0f, y_1f, y_0, y_1, c0_7f, c0_0, c0_1, c0_2, c0_3, c0_4, c0_5, c0_6, c0_7, ne_y_c0, ne_c0_y, ry, rya, ryb, ryc, ryn, rc0, rc0a, rc0b, rc0c, rc0n]; done))
      replace c0_2 : w56.cell? ⟨w52.heap.size, 2, none⟩ = some (.int .i64 xs) := hx56.has (by first | exact c0_2 | (simp [go_sem, World.cell?_alloc_past, y_0f, y_1f, y_0, y_1, c0_7f, c0_0, c0_1, c0_2, c0_3, c0_4, c0_5, c0_6, c0_7, ne_y_c0, ne_c0_y, ry, rya, ryb, ryc, ryn, rc0, rc0a, rc0b, rc0c, rc0n]; done))
      replace c0_3 : w56.cell? ⟨w52.heap.size, 3, none⟩ = some (.int .i64 xp) := hx56.has (by first | exact c0_3 | (simp [go_sem, World.cell?_alloc_past, y_0f, y_1f, y_0, y_1, c0_7f, c0_0, c0_1, c0_2, c0_3, c0_4, c0_5, c0_6, c0_7, ne_y_c0, ne_c0_y, ry, rya, ryb, ryc, ryn, rc0, rc0a, rc0b, rc0c, rc0n]; done))
      replace c0_4 : w56.cell? ⟨w52.heap.size, 4, none⟩ = some (.int .i64 xf) := hx56.has (by first | exact c0_4 | (simp [go_sem, World.cell?_alloc_past, y_0f, y_1f, y_0, y_1, c0_7f, c0_0, c0_1, c0_2, c0_3, c0_4, c0_5, c0_6, c0_7, ne_y_c0, ne_c0_y, ry, rya, ryb, ryc, ryn, rc0, rc0a, rc0b, rc0c, rc0n]; done))
      replace c0_5 : w56.cell? ⟨w52.heap.size, 5, none⟩ = some (.int .i64 xc) := hx56.has (by first | exact c0_5 | (simp [go_sem, World.cell?_alloc_past, y_0f, y_1f, y_0, y_1, c0_7f, c0_0, c0_1, c0_2, c0_3, c0_4, c0_5, c0_6, c0_7, ne_y_c0, ne_c0_y, ry, rya, ryb, ryc, ryn, rc0, rc0a, rc0b, rc0c, rc0n]; done))
      replace c0_6 : w56.cell? ⟨w52.heap.size, 6, none⟩ = some (.int .u64 xi) := hx56.has (by first | exact c0_6 | (simp [go_sem, World.cell?_alloc_past, y_0f, y_1f, y_0, y_1, c0_7f, c0_0, c0_1, c0_2, c0_3, c0_4, c0_5, c0_6, c0_7, ne_y_c0, ne_c0_y, ry, rya, ryb, ryc, ryn, rc0, rc0a, rc0b, rc0c, rc0n]; done))
      replace c0_7 : w56.cell? ⟨w52.heap.size, 7, none⟩ = some (.int .u64 xb) := hx56.has (by first | exact c0_7 | (simp [go_sem, World.cell?_alloc_past, y_0f, y_1f, y_0, y_1, c0_7f, c0_0, c0_1, c0_2, c0_3, c0_4, c0_5, c0_6, c0_7, ne_y_c0, ne_c0_y, ry, rya, ryb, ryc, ryn, rc0, rc0a, rc0b, rc0c, rc0n]; done))
      have z56 := hx56.size
      try simp at z56
      replace ry : w.heap.size < w56.heap.size := by omega
      replace rya : w.heap.size < w56.heap.size + 1 := by omega
      replace ryb : w.heap.size < w56.heap.size + 1 + 1 := by omega
      replace ryc : w.heap.size < w56.heap.size + 1 + 1 + 1 := by omega
      replace ryn : ¬ w.heap.size = w56.heap.size := by omega
      replace rc0 : w52.heap.size < w56.heap.size := by omega
      replace rc0a : w52.heap.size < w56.heap.size + 1 := by omega
      replace rc0b : w52.heap.size < w56.heap.size + 1 + 1 := by omega
      replace rc0c : w52.heap.size < w56.heap.size + 1 + 1 + 1 := by omega
      replace rc0n : ¬ w52.heap.size = w56.heap.size := by omega
      replace HO := Lib.hid ((OwnR.butN HO.out (by repeat (first | with_reducible exact But.refl _ _ | with_reducible refine But.drew ?_ | with_reducible refine But.drewN ?_ _ | with_reducible refine But.alloc ?_ _ | with_reducible refine But.setCell ?_ (by first | exact Nat.le_refl _ | (dsimp only; omega)) _ | with_reducible refine But.setNew ?_ (by first | omega | (simp; done) | (simp; omega)) _))).ext hx56)
      replace HT := Lib.hid ((RdT.set HT.out rfl _).ext hx56)
      have X56 : Hid (Ext w w56) := Lib.hid (Ext.trans (by repeat (first | with_reducible exact X55.out | with_reducible refine Ext.drew ?_ | with_reducible refine Ext.drewN ?_ _ | with_reducible refine Ext.alloc ?_ _ | with_reducible refine Ext.setCell ?_ (by first | omega | (simp; done) | (simp; omega)) _)) hx56)
      clear c0_7f X55 hx56 z56
      rcases Bool.eq_false_or_eq_true bb with hbb | hbb <;> subst hbb
      · have hE2 : ∃ x, f5 = some x := by cases hf5 : f5 with | none => (have h := GB.out; rw [hf5, fltQ_none] at h; cases h) | some x => exact ⟨x, rfl⟩
        obtain ⟨fx, hfx⟩ := hE2
        obtain ⟨⟨e, a⟩, hea⟩ : ∃ E, E = endF f5 k5 L.length := ⟨_, rfl⟩
        have hQN : QI L N k5 f5 out := by rw [hfx]; exact QI.brk GQ.out (by rw [← hfx]; exact GS.out) hjN
        have HE := Lib.hid (QI.end_ (e := e) (a := a) hQN hea HR0.out)
        have HEA := Lib.hid hea
        have HFQ := Lib.hid GQ.out.2.2.2.1
        obtain ⟨sm, hsm⟩ : ∃ s, s = sumP out := ⟨_, rfl⟩
        have HSM := Lib.hid hsm
        have hln : out.length ≤ 100000 := by have := GQ.out.2.2.1; omega
        clear hfx hea hsm hQN
        go_wp2_with fail
        (with_reducible refine (cEnd_q g k5 L f5 e a _ ((HT.out.ext (by repeat (first | with_reducible exact Ext.refl _ | with_reducible refine Ext.drew ?_ | with_reducible refine Ext.drewN ?_ _ | with_reducible refine Ext.alloc ?_ _ | with_reducible refine Ext.setCell ?_ (by first | omega | (simp; done) | (simp; omega)) _)))).rd hL HEA.out).mono ?_)
        rintro e w57 ⟨rfl, hx57⟩
        replace y_0f : w57.frozen? ⟨w.heap.size, 0, none⟩ = false := hx57.froz (v := .int .i64 0) (by first | exact y_0 | (simp [go_sem, World.cell?_alloc_past, y_0f, y_1f, y_0, y_1, c0_0, c0_1, c0_2, c0_3, c0_4, c0_5, c0_6, c0_7, ne_y_c0, ne_c0_y, ry, rya, ryb, ryc, ryn, rc0, rc0a, rc0b, rc0c, rc0n]; done)) (by first | exact y_0f | (simp [go_sem, World.cell?_alloc_past, y_0f, y_1f, y_0, y_1, c0_0, c0_1, c0_2, c0_3, c0_4, c0_5, c0_6, c0_7, ne_y_c0, ne_c0_y, ry, rya, ryb, ryc, ryn, rc0, rc0a, rc0b, rc0c, rc0n]; done))
        replace y_1f : w57.frozen? ⟨w.heap.size, 1, none⟩ = false := hx57.froz (v := .int .i64 0) (by first | exact y_1 | (simp [go_sem, World.cell?_alloc_past, y_0f, y_1f, y_0, y_1, c0_0, c0_1, c0_2, c0_3, c0_4, c0_5, c0_6, c0_7, ne_y_c0, ne_c0_y, ry, rya, ryb, ryc, ryn, rc0, rc0a, rc0b, rc0c, rc0n]; done)) (by first | exact y_1f | (simp [go_sem, World.cell?_alloc_past, y_0f, y_1f, y_0, y_1, c0_0, c0_1, c0_2, c0_3, c0_4, c0_5, c0_6, c0_7, ne_y_c0, ne_c0_y, ry, rya, ryb, ryc, ryn, rc0, rc0a, rc0b, rc0c, rc0n]; done))
        replace y_0 : w57.cell? ⟨w.heap.size, 0, none⟩ = some (.int .i64 0) := hx57.has (by first | exact y_0 | (simp [go_sem, World.cell?_alloc_past, y_0f, y_1f, y_0, y_1, c0_0, c0_1, c0_2, c0_3, c0_4, c0_5, c0_6, c0_7, ne_y_c0, ne_c0_y, ry, rya, ryb, ryc, ryn, rc0, rc0a, rc0b, rc0c, rc0n]; done))
        replace y_1 : w57.cell? ⟨w.heap.size, 1, none⟩ = some (.int .i64 0) := hx57.has (by first | exact y_1 | (simp [go_sem, World.cell?_alloc_past, y_0f, y_1f, y_0, y_1, c0_0, c0_1, c0_2, c0_3, c0_4, c0_5, c0_6, c0_7, ne_y_c0, ne_c0_y, ry, rya, ryb, ryc, ryn, rc0, rc0a, rc0b, rc0c, rc0n]; done))
        replace c0_0 : w57.cell? ⟨w52.heap.size, 0, none⟩ = some (.int .i64 xo) := hx57.has (by first | exact c0_0 | (simp [go_sem, World.cell?_alloc_past, y_0f, y_1f, y_0, y_1, c0_0, c0_1, c0_2, c0_3, c0_4, c0_5, c0_6, c0_7, ne_y_c0, ne_c0_y, ry, rya, ryb, ryc, ryn, rc0, rc0a, rc0b, rc0c, rc0n]; done))
        replace c0_1 : w57.cell? ⟨w52.heap.size, 1, none⟩ = some (.int .i64 xv) := hx57.has (by first | exact c0_1 | (simp [go_sem, World.cell?_alloc_past, y_0f, y_1f, y_0, y_1, c0_0, c0_1, c0_2, c0_3, c0_4, c0_5, c0_6, c0_7, ne_y_c0, ne_c0_y, ry, rya, ryb, ryc, ryn, rc0, rc0a, rc0b, rc0c, rc0n]; done))
        replace c0_2 : w57.cell? ⟨w52.heap.size, 2, none⟩ = some (.int .i64 xs) := hx57.has (by first | exact c0_2 | (simp [go_sem, World.cell?_alloc_past, y_0f, y_1f, y_0, y_1, c0_0, c0_1, c0_2, c0_3, c0_4, c0_5, c0_6, c0_7, ne_y_c0, ne_c0_y, ry, rya, ryb, ryc, ryn, rc0, rc0a, rc0b, rc0c, rc0n]; done))
        replace c0_3 : w57.cell? ⟨w52.heap.size, 3, none⟩ = some (.int .i64 xp) := hx57.has (by first | exact c0_3 | (simp [go_sem, World.cell?_alloc_past, y_0f, y_1f, y_0, y_1, c0_0, c0_1, c0_2, c0_3, c0_4, c0_5, c0_6, c0_7, ne_y_c0, ne_c0_y, ry, rya, ryb, ryc, ryn, rc0, rc0a, rc0b, rc0c, rc0n]; done))
        replace c0_4 : w57.cell? ⟨w52.heap.size, 4, none⟩ = some (.int .i64 xf) := hx57.has (by first | exact c0_4 | (simp [go_sem, World.cell?_alloc_past, y_0f, y_1f, y_0, y_1, c0_0, c0_1, c0_2, c0_3, c0_4, c0_5, c0_6, c0_7, ne_y_c0, ne_c0_y, ry, rya, ryb, ryc, ryn, rc0, rc0a, rc0b, rc0c, rc0n]; done))
        replace c0_5 : w57.cell? ⟨w52.heap.size, 5, none⟩ = some (.int .i64 xc) := hx57.has (by first | exact c0_5 | (simp [go_sem, World.cell?_alloc_past, y_0f, y_1f, y_0, y_1, c0_0, c0_1, c0_2, c0_3, c0_4, c0_5, c0_6, c0_7, ne_y_c0, ne_c0_y, ry, rya, ryb, ryc, ryn, rc0, rc0a, rc0b, rc0c, rc0n]; done))
        replace c0_6 : w57.cell? ⟨w52.heap.size, 6, none⟩ = some (.int .u64 xi) := hx57.has (by first | exact c0_6 | (simp [go_sem, World.cell?_alloc_past, y_0f, y_1f, y_0, y_1, c0_0, c0_1, c0_2, c0_3, c0_4, c0_5, c0_6, c0_7, ne_y_c0, ne_c0_y, ry, rya, ryb, ryc, ryn, rc0, rc0a, rc0b, rc0c, rc0n]; done))
        replace c0_7 : w57.cell? ⟨w52.heap.size, 7, none⟩ = some (.int .u64 xb) := hx57.has (by first | exact c0_7 | (simp [go_sem, World.cell?_alloc_past, y_0f, y_1f, y_0, y_1, c0_0, c0_1, c0_2, c0_3, c0_4, c0_5, c0_6, c0_7, ne_y_c0, ne_c0_y, ry, rya, ryb, ryc, ryn, rc0, rc0a, rc0b, rc0c, rc0n]; done))
        have z57 := hx57.size
        try simp at z57
        replace ry : w.heap.size < w57.heap.size := by omega
        replace rya : w.heap.size < w57.heap.size + 1 := by omega
        replace ryb : w.heap.size < w57.heap.size + 1 + 1 := by omega
        replace ryc : w.heap.size < w57.heap.size + 1 + 1 + 1 := by omega
        replace ryn : ¬ w.heap.size = w57.heap.size := by omega
        replace rc0 : w52.heap.size < w57.heap.size := by omega
        replace rc0a : w52.heap.size < w57.heap.size + 1 := by omega
        replace rc0b : w52.heap.size < w57.heap.size + 1 + 1 := by omega
        replace rc0c : w52.heap.size < w57.heap.size + 1 + 1 + 1 := by omega
        replace rc0n : ¬ w52.heap.size = w57.heap.size := by omega
        replace HO := Lib.hid ((OwnR.butN HO.out (by repeat (first | with_reducible exact But.refl _ _ | with_reducible refine But.drew ?_ | with_reducible refine But.drewN ?_ _ | with_reducible refine But.alloc ?_ _ | with_reducible refine But.setCell ?_ (by first | exact Nat.le_refl _ | (dsimp only; omega)) _ | with_reducible refine But.setNew ?_ (by first | omega | (simp; done) | (simp; omega)) _))).ext hx57)
        replace HT := Lib.hid (HT.out.ext (Ext.trans (by repeat (first | with_reducible exact Ext.refl _ | with_reducible refine Ext.drew ?_ | with_reducible refine Ext.drewN ?_ _ | with_reducible refine Ext.alloc ?_ _ | with_reducible refine Ext.setCell ?_ (by first | omega | (simp; done) | (simp; omega)) _)) hx57))
        have X57 : Hid (Ext w w57) := Lib.hid (Ext.trans (by repeat (first | with_reducible exact X56.out | with_reducible refine Ext.drew ?_ | with_reducible refine Ext.drewN ?_ _ | with_reducible refine Ext.alloc ?_ _ | with_reducible refine Ext.setCell ?_ (by first | omega | (simp; done) | (simp; omega)) _)) hx57)
        clear X56 hx57 z57
        by_cases he : e = 0
        · have e7 : (e == 0) = true := by simpa using he
          have ha2 : a = 0 := (HE.out.2 he).1
          have HE2 := Lib.hid (HE.out.2 he).2
          clear HE
          subst he; subst ha2
          clear e7
          go_wp2_with fail
          (with_reducible refine (qsum_e A9 out.length c9 out sm _ (Sl.own (OwnR.own (OwnR.butN HO.out (by repeat (first | with_reducible exact But.refl _ _ | with_reducible refine But.drew ?_ | with_reducible refine But.drewN ?_ _ | with_reducible refine But.alloc ?_ _ | with_reducible refine But.setCell ?_ (by first | exact Nat.le_refl _ | (dsimp only; omega)) _ | with_reducible refine But.setNew ?_ (by first | omega | (simp; done) | (simp; omega)) _))))) hln HFQ.out HSM.out).mono ?_)
          rintro e w58 ⟨rfl, hx58⟩
          replace y_0f : w58.frozen? ⟨w.heap.size, 0, none⟩ = false := hx58.froz (v := .int .i64 0) (by first | exact y_0 | (simp [go_sem, World.cell?_alloc_past, y_0f, y_1f, y_0, y_1, c0_0, c0_1, c0_2, c0_3, c0_4, c0_5, c0_6, c0_7, ne_y_c0, ne_c0_y, ry, rya, ryb, ryc, ryn, rc0, rc0a, rc0b, rc0c, rc0n]; done)) (by first | exact y_0f | (simp [go_sem, World.cell?_alloc_past, y_0f, y_1f, y_0, y_1, c0_0, c0_1, c0_2, c0_3, c0_4, c0_5, c0_6, c0_7, ne_y_c0, ne_c0_y, ry, rya, ryb, ryc, ryn, rc0, rc0a, rc0b, rc0c, rc0n]; done))
          replace y_1f : w58.frozen? ⟨w.heap.size, 1, none⟩ = false := hx58.froz (v := .int .i64 0) (by first | exact y_1 | (simp [go_sem, World.cell?_alloc_past, y_0f, y_1f, y_0, y_1, c0_0, c0_1, c0_2, c0_3, c0_4, c0_5, c0_6, c0_7, ne_y_c0, ne_c0_y, ry, rya, ryb, ryc, ryn, rc0, rc0a, rc0b, rc0c, rc0n]; done)) (by first | exact y_1f | (simp [go_sem, World.cell?_alloc_past, y_0f, y_1f, y_0, y_1, c0_0, c0_1, c0_2, c0_3, c0_4, c0_5, c0_6, c0_7, ne_y_c0, ne_c0_y, ry, rya, ryb, ryc, ryn, rc0, rc0a, rc0b, rc0c, rc0n]; done))
          replace y_0 : w58.cell? ⟨w.heap.size, 0, none⟩ = some (.int .i64 0) := hx58.has (by first | exact y_0 | (simp [go_sem, World.cell?_alloc_past, y_0f, y_1f, y_0, y_1, c0_0, c0_1, c0_2, c0_3, c0_4, c0_5, c0_6, c0_7, ne_y_c0, ne_c0_y, ry, rya, ryb, ryc, ryn, rc0, rc0a, rc0b, rc0c, rc0n]; done))
          replace y_1 : w58.cell? ⟨w.heap.size, 1, none⟩ = some (.int .i64 0) := hx58.has (by first | exact y_1 | (simp [go_sem, World.cell?_alloc_past, y_0f, y_1f, y_0, y_1, c0_0, c0_1, c0_2, c0_3, c0_4, c0_5, c0_6, c0_7, ne_y_c0, ne_c0_y, ry, rya, ryb, ryc, ryn, rc0, rc0a, rc0b, rc0c, rc0n]; done))
          replace c0_0 : w58.cell? ⟨w52.heap.size, 0, none⟩ = some (.int .i64 xo) := hx58.has (by first | exact c0_0 | (simp [go_sem, World.cell?_alloc_past, y_0f, y_1f, y_0, y_1, c0_0, c0_1, c0_2, c0_3, c0_4, c0_5, c0_6, c0_7, ne_y_c0, ne_c0_y, ry, rya, ryb, ryc, ryn, rc0, rc0a, rc0b, rc0c, rc0n]; done))
          replace c0_1 : w58.cell? ⟨w52.heap.size, 1, none⟩ = some (.int .i64 xv) := hx58.has (by first | exact c0_1 | (simp [go_sem, World.cell?_alloc_past, y_0f, y_1f, y_0, y_1, c0_0, c0_1, c0_2, c0_3, c0_4, c0_5, c0_6, c0_7, ne_y_c0, ne_c0_y, ry, rya, ryb, ryc, ryn, rc0, rc0a, rc0b, rc0c, rc0n]; done))
          replace c0_2 : w58.cell? ⟨w52.heap.size, 2, none⟩ = some (.int .i64 xs) := hx58.has (by first | exact c0_2 | (simp [go_sem, World.cell?_alloc_past, y_0f, y_1f, y_0, y_1, c0_0, c0_1, c0_2, c0_3, c0_4, c0_5, c0_6, c0_7, ne_y_c0, ne_c0_y, ry, rya, ryb, ryc, ryn, rc0, rc0a, rc0b, rc0c, rc0n]; done))
          replace c0_3 : w58.cell? ⟨w52.heap.size, 3, none⟩ = some (.int .i64 xp) := hx58.has (by first | exact c0_3 | (simp [go_sem, World.cell?_alloc_past, y_0f, y_1f, y_0, y_1, c0_0, c0_1, c0_2, c0_3, c0_4, c0_5, c0_6, c0_7, ne_y_c0, ne_c0_y, ry, rya, ryb, ryc, ryn, rc0, rc0a, rc0b, rc0c, rc0n]; done))
          replace c0_4 : w58.cell? ⟨w52.heap.size, 4, none⟩ = some (.int .i64 xf) := hx58.has (by first | exact c0_4 | (simp [go_sem, World.cell?_alloc_past, y_0f, y_1f, y_0, y_1, c0_0, c0_1, c0_2, c0_3, c0_4, c0_5, c0_6, c0_7, ne_y_c0, ne_c0_y, ry, rya, ryb, ryc, ryn, rc0, rc0a, rc0b, rc0c, rc0n]; done))
          replace c0_5 : w58.cell? ⟨w52.heap.size, 5, none⟩ = some (.int .i64 xc) := hx58.has (by first | exact c0_5 | (simp [go_sem, World.cell?_alloc_past, y_0f, y_1f, y_0, y_1, c0_0, c0_1, c0_2, c0_3, c0_4, c0_5, c0_6, c0_7, ne_y_c0, ne_c0_y, ry, rya, ryb, ryc, ryn, rc0, rc0a, rc0b, rc0c, rc0n]; done))
          replace c0_6 : w58.cell? ⟨w52.heap.size, 6, none⟩ = some (.int .u64 xi) := hx58.has (by first | exact c0_6 | (simp [go_sem, World.cell?_alloc_past, y_0f, y_1f, y_0, y_1, c0_0, c0_1, c0_2, c0_3, c0_4, c0_5, c0_6, c0_7, ne_y_c0, ne_c0_y, ry, rya, ryb, ryc, ryn, rc0, rc0a, rc0b, rc0c, rc0n]; done))
          replace c0_7 : w58.cell? ⟨w52.heap.size, 7, none⟩ = some (.int .u64 xb) := hx58.has (by first | exact c0_7 | (simp [go_sem, World.cell?_alloc_past, y_0f, y_1f, y_0, y_1, c0_0, c0_1, c0_2, c0_3, c0_4, c0_5, c0_6, c0_7, ne_y_c0, ne_c0_y, ry, rya, ryb, ryc, ryn, rc0, rc0a, rc0b, rc0c, rc0n]; done))
          have c1_0f : w58.frozen? ⟨w57.heap.size, 0, none⟩ = false := hx58.froz (v := .int .i64 0) (by first | fail | (simp [go_sem, World.cell?_alloc_past, y_0f, y_1f, y_0, y_1, c0_0, c0_1, c0_2, c0_3, c0_4, c0_5, c0_6, c0_7, ne_y_c0, ne_c0_y, ry, rya, ryb, ryc, ryn, rc0, rc0a, rc0b, rc0c, rc0n]; done)) (by first | fail | (simp [go_sem, World.cell?_alloc_past, y_0f, y_1f, y_0, y_1, c0_0, c0_1, c0_2, c0_3, c0_4, c0_5, c0_6, c0_7, ne_y_c0, ne_c0_y, ry, rya, ryb, ryc, ryn, rc0, rc0a, rc0b, rc0c, rc0n]; done))
          have c1_0 : w58.cell? ⟨w57.heap.size, 0, none⟩ = some (.int .i64 0) := hx58.has (by first | fail | (simp [go_sem, World.cell?_alloc_past, y_0f, y_1f, y_0, y_1, c0_0, c0_1, c0_2, c0_3, c0_4, c0_5, c0_6, c0_7, ne_y_c0, ne_c0_y, ry, rya, ryb, ryc, ryn, rc0, rc0a, rc0b, rc0c, rc0n]; done))
          have c1_1 : w58.cell? ⟨w57.heap.size, 1, none⟩ = some (.int .i64 0) := hx58.has (by first | fail | (simp [go_sem, World.cell?_alloc_past, y_0f, y_1f, y_0, y_1, c0_0, c0_1, c0_2, c0_3, c0_4, c0_5, c0_6, c0_7, ne_y_c0, ne_c0_y, ry, rya, ryb, ryc, ryn, rc0, rc0a, rc0b, rc0c, rc0n]; done))
          have z58 := hx58.size
          try simp at z58
          have lt_y_c1 : w.heap.size < w57.heap.size := by omega
          have ne_y_c1 : ¬ w.heap.size = w57.heap.size := by omega
          have lt_c0_c1 : w52.heap.size < w57.heap.size := by omega
          have ne_c0_c1 : ¬ w52.heap.size = w57.heap.size := by omega
          have ne_c1_y : ¬ w57.heap.size = w.heap.size := by omega
          have ne_c1_c0 : ¬ w57.heap.size = w52.heap.size := by omega
          replace ry : w.heap.size < w58.heap.size := by omega
          replace rya : w.heap.size < w58.heap.size + 1 := by omega
          replace ryb : w.heap.size < w58.heap.size + 1 + 1 := by omega
          replace ryc : w.heap.size < w58.heap.size + 1 + 1 + 1 := by omega
          replace ryn : ¬ w.heap.size = w58.heap.size := by omega
          replace rc0 : w52.heap.size < w58.heap.size := by omega
          replace rc0a : w52.heap.size < w58.heap.size + 1 := by omega
          replace rc0b : w52.heap.size < w58.heap.size + 1 + 1 := by omega
          replace rc0c : w52.heap.size < w58.heap.size + 1 + 1 + 1 := by omega
          replace rc0n : ¬ w52.heap.size = w58.heap.size := by omega
          have rc1 : w57.heap.size < w58.heap.size := by omega
          have rc1a : w57.heap.size < w58.heap.size + 1 := by omega
          have rc1b : w57.heap.size < w58.heap.size + 1 + 1 := by omega
          have rc1c : w57.heap.size < w58.heap.size + 1 + 1 + 1 := by omega
          have rc1n : ¬ w57.heap.size = w58.heap.size := by omega
          replace HO := Lib.hid ((OwnR.butN HO.out (by repeat (first | with_reducible exact But.refl _ _ | with_reducible refine But.drew ?_ | with_reducible refine But.drewN ?_ _ | with_reducible refine But.alloc ?_ _ | with_reducible refine But.setCell ?_ (by first | exact Nat.le_refl _ | (dsimp only; omega)) _ | with_reducible refine But.setNew ?_ (by first | omega | (simp; done) | (simp; omega)) _))).ext hx58)
          replace HT := Lib.hid (HT.out.ext (Ext.trans (by repeat (first | with_reducible exact Ext.refl _ | with_reducible refine Ext.drew ?_ | with_reducible refine Ext.drewN ?_ _ | with_reducible refine Ext.alloc ?_ _ | with_reducible refine Ext.setCell ?_ (by first | omega | (simp; done) | (simp; omega)) _)) hx58))
          have X58 : Hid (Ext w w58) := Lib.hid (Ext.trans (by repeat (first | with_reducible exact X57.out | with_reducible refine Ext.drew ?_ | with_reducible refine Ext.drewN ?_ _ | with_reducible refine Ext.alloc ?_ _ | with_reducible refine Ext.setCell ?_ (by first | omega | (simp; done) | (simp; omega)) _)) hx58)
          clear X57 hx58 z58
          by_cases ht : 4611686018427387904 < sm
          · have e9 : decide (4611686018427387904 < sm) = true := decide_eq_true ht
            go_wp2_with fail
            refine wp_region_held_drew (S := fun w' => w'.cell? ⟨w57.heap.size, 0, none⟩ = some (.int .i64 12) ∧ w'.cell? ⟨w57.heap.size, 1, none⟩ = some (.int .i64 0)) (by kernel_rfl) (by first | exact ⟨c1_0, c1_1⟩ | (simp [go_sem, World.cell?_alloc_past, y_0f, y_1f, y_0, y_1, c0_0, c0_1, c0_2, c0_3, c0_4, c0_5, c0_6, c0_7, c1_0f, c1_0, c1_1, ne_y_c0, ne_y_c1, ne_c0_y, ne_c0_c1, ne_c1_y, ne_c1_c0, ry, rya, ryb, ryc, ryn, rc0, rc0a, rc0b, rc0c, rc0n, rc1, rc1a, rc1b, rc1c, rc1n]; done)) (fun hHeld => ?_)
            (refine' take_in 0 rfl (by kernel_rfl) (by kernel_rfl) (by kernel_rfl) (fun _ _ _ h => h) (by rfl) (by assumption) ?_ ?_; rotate_left; focus (intro w hSw; (try dsimp only at hSw); go_simp; try with_reducible rfl)); try simp only [Act.put, List.setIfInBounds_toArray, List.set_cons_zero, List.set_cons_succ]
            (refine' take_in 1 rfl (by kernel_rfl) (by kernel_rfl) (by kernel_rfl) (fun _ _ _ h => h) (by rfl) (by assumption) ?_ ?_; rotate_left; focus (intro w hSw; (try dsimp only at hSw); go_simp; try with_reducible rfl)); try simp only [Act.put, List.setIfInBounds_toArray, List.set_cons_zero, List.set_cons_succ]
            refine' next_in 2 rfl (by kernel_rfl) (by rfl) (fun K hK => ?_)
            go_simp
            refine hK.out _ _ (by (first | exact ⟨c1_0, c1_1⟩ | (simp [go_sem, World.cell?_alloc_past, y_0f, y_1f, y_0, y_1, c0_0, c0_1, c0_2, c0_3, c0_4, c0_5, c0_6, c0_7, c1_0f, c1_0, c1_1, ne_y_c0, ne_y_c1, ne_c0_y, ne_c0_c1, ne_c1_y, ne_c1_c0, ry, rya, ryb, ryc, ryn, rc0, rc0a, rc0b, rc0c, rc0n, rc1, rc1a, rc1b, rc1c, rc1n]; done))) (fun hHeld => ?_); clear hK K; try simp only [Act.put, List.setIfInBounds_toArray, List.set_cons_zero, List.set_cons_succ]
            refine wpAnyH_done (by kernel_rfl) ?_ _
            obtain rfl : R = ([], 12, 0) := HE2.out.2 (sumP_lt (by have := HSM.out; omega))
            go_wp2_with fail
            refine bodyPost_ret (v := .tuple #[.slice none 0 0, .agg #[.int .i64 12, .int .i64 0]]) (by simp [results, Tryz.results10, go_sem, World.cell?_alloc_past, y_0f, y_1f, y_0, y_1, c0_0, c0_1, c0_2, c0_3, c0_4, c0_5, c0_6, c0_7, c1_0f, c1_0, c1_1, ne_y_c0, ne_y_c1, ne_c0_y, ne_c0_c1, ne_c1_y, ne_c1_c0, ry, rya, ryb, ryc, ryn, rc0, rc0a, rc0b, rc0c, rc0n, rc1, rc1a, rc1b, rc1c, rc1n]; try rfl) rfl (RetEntV.nil (xs := [.agg #[.int .i64 12, .int .i64 0]]) ?_)
            exact (by repeat (first | with_reducible exact X58.out | with_reducible refine Ext.drew ?_ | with_reducible refine Ext.drewN ?_ _ | with_reducible refine Ext.alloc ?_ _ | with_reducible refine Ext.setCell ?_ (by first | omega | (simp; done) | (simp; omega)) _))
          · have e9 : decide (4611686018427387904 < sm) = false := decide_eq_false ht
            go_wp2_with fail
            refine wp_region_held_drew (S := fun w' => w'.cell? ⟨w57.heap.size, 0, none⟩ = some (.int .i64 0) ∧ w'.cell? ⟨w57.heap.size, 1, none⟩ = some (.int .i64 0)) (by kernel_rfl) (by first | exact ⟨c1_0, c1_1⟩ | (simp [go_sem, World.cell?_alloc_past, y_0f, y_1f, y_0, y_1, c0_0, c0_1, c0_2, c0_3, c0_4, c0_5, c0_6, c0_7, c1_0f, c1_0, c1_1, ne_y_c0, ne_y_c1, ne_c0_y, ne_c0_c1, ne_c1_y, ne_c1_c0, ry, rya, ryb, ryc, ryn, rc0, rc0a, rc0b, rc0c, rc0n, rc1, rc1a, rc1b, rc1c, rc1n]; done)) (fun hHeld => ?_)
            (refine' take_in 0 rfl (by kernel_rfl) (by kernel_rfl) (by kernel_rfl) (fun _ _ _ h => h) (by rfl) (by assumption) ?_ ?_; rotate_left; focus (intro w hSw; (try dsimp only at hSw); go_simp; try with_reducible rfl)); try simp only [Act.put, List.setIfInBounds_toArray, List.set_cons_zero, List.set_cons_succ]
            (refine' take_in 1 rfl (by kernel_rfl) (by kernel_rfl) (by kernel_rfl) (fun _ _ _ h => h) (by rfl) (by assumption) ?_ ?_; rotate_left; focus (intro w hSw; (try dsimp only at hSw); go_simp; try with_reducible rfl)); try simp only [Act.put, List.setIfInBounds_toArray, List.set_cons_zero, List.set_cons_succ]
            (refine' take_in 2 rfl (by kernel_rfl) (by kernel_rfl) (by kernel_rfl) (fun _ _ _ h => h) (by rfl) (by assumption) ?_ ?_; rotate_left; focus (intro w hSw; (try dsimp only at hSw); go_simp; try with_reducible rfl)); try simp only [Act.put, List.setIfInBounds_toArray, List.set_cons_zero, List.set_cons_succ]
            refine' next_in 3 rfl (by kernel_rfl) (by rfl) (fun K hK => ?_)
            go_simp
            refine hK.out _ _ (by (first | exact ⟨c1_0, c1_1⟩ | (simp [go_sem, World.cell?_alloc_past, y_0f, y_1f, y_0, y_1, c0_0, c0_1, c0_2, c0_3, c0_4, c0_5, c0_6, c0_7, c1_0f, c1_0, c1_1, ne_y_c0, ne_y_c1, ne_c0_y, ne_c0_c1, ne_c1_y, ne_c1_c0, ry, rya, ryb, ryc, ryn, rc0, rc0a, rc0b, rc0c, rc0n, rc1, rc1a, rc1b, rc1c, rc1n]; done))) (fun hHeld => ?_); clear hK K; try simp only [Act.put, List.setIfInBounds_toArray, List.set_cons_zero, List.set_cons_succ]
            refine wpAnyH_done (by kernel_rfl) ?_ _
            obtain rfl : R = (out, 0, 0) := HE2.out.1 (sumP_le (by have := HSM.out; omega))
            go_wp2_with fail
            refine bodyPost_ret (v := .tuple #[.slice A9 out.length c9, .agg #[.int .i64 0, .int .i64 0]]) (by simp [results, Tryz.results10, go_sem, World.cell?_alloc_past, y_0f, y_1f, y_0, y_1, c0_0, c0_1, c0_2, c0_3, c0_4, c0_5, c0_6, c0_7, c1_0f, c1_0, c1_1, ne_y_c0, ne_y_c1, ne_c0_y, ne_c0_c1, ne_c1_y, ne_c1_c0, ry, rya, ryb, ryc, ryn, rc0, rc0a, rc0b, rc0c, rc0n, rc1, rc1a, rc1b, rc1c, rc1n]; try rfl) rfl (RetEntV.mk (n := out.length) (xs := [.agg #[.int .i64 0, .int .i64 0]]) ?_ (by repeat (first | with_reducible exact X58.out | with_reducible refine Ext.drew ?_ | with_reducible refine Ext.drewN ?_ _ | with_reducible refine Ext.alloc ?_ _ | with_reducible refine Ext.setCell ?_ (by first | omega | (simp; done) | (simp; omega)) _)) rfl)
            exact own_lower (own_but (S := fun j => j = w.heap.size ∨ w52.heap.size ≤ j) (show OwnR w52.heap.size w58 _ _ _ _ _ _ from HO.out).own (by repeat (first | with_reducible exact But.refl _ _ | with_reducible refine But.drew ?_ | with_reducible refine But.drewN ?_ _ | with_reducible refine But.alloc ?_ _ | with_reducible refine But.setCell ?_ (by first | exact Or.inl rfl | (exact Or.inr (by (show _ ≤ _); omega))) _)) (fun j hj hh => by have h1 := own_block (show OwnR w52.heap.size w58 _ _ _ _ _ _ from HO.out).own hj; have h2 := (show OwnR w52.heap.size w58 _ _ _ _ _ _ from HO.out).2 j hj; rcases hh with hh | hh <;> omega)) (by omega)
        · have e7 : (e == 0) = false := by simpa using he
          have e8 : (e != 0) = true := by simpa using he
          go_wp2_with fail
          refine wp_region_held_drew (S := fun w' => w'.cell? ⟨w57.heap.size, 0, none⟩ = some (.int .i64 e) ∧ w'.cell? ⟨w57.heap.size, 1, none⟩ = some (.int .i64 a)) (by kernel_rfl) (by first | exact ⟨c1_0, c1_1⟩ | (simp [go_sem, World.cell?_alloc_past, y_0f, y_1f, y_0, y_1, c0_0, c0_1, c0_2, c0_3, c0_4, c0_5, c0_6, c0_7, ne_y_c0, ne_c0_y, ry, rya, ryb, ryc, ryn, rc0, rc0a, rc0b, rc0c, rc0n]; done)) (fun hHeld => ?_)
          (refine' take_in 0 rfl (by kernel_rfl) (by kernel_rfl) (by kernel_rfl) (fun _ _ _ h => h) (by rfl) (by assumption) ?_ ?_; rotate_left; focus (intro w hSw; (try dsimp only at hSw); go_simp; try with_reducible rfl)); try simp only [Act.put, List.setIfInBounds_toArray, List.set_cons_zero, List.set_cons_succ]
          (refine' take_in 1 rfl (by kernel_rfl) (by kernel_rfl) (by kernel_rfl) (fun _ _ _ h => h) (by rfl) (by assumption) ?_ ?_; rotate_left; focus (intro w hSw; (try dsimp only at hSw); go_simp; try with_reducible rfl)); try simp only [Act.put, List.setIfInBounds_toArray, List.set_cons_zero, List.set_cons_succ]
          refine' next_in 2 rfl (by kernel_rfl) (by rfl) (fun K hK => ?_)
          go_simp
          refine hK.out _ _ (by (first | exact ⟨c1_0, c1_1⟩ | (simp [go_sem, World.cell?_alloc_past, y_0f, y_1f, y_0, y_1, c0_0, c0_1, c0_2, c0_3, c0_4, c0_5, c0_6, c0_7, ne_y_c0, ne_c0_y, ry, rya, ryb, ryc, ryn, rc0, rc0a, rc0b, rc0c, rc0n]; done))) (fun hHeld => ?_); clear hK K; try simp only [Act.put, List.setIfInBounds_toArray, List.set_cons_zero, List.set_cons_succ]
          refine wpAnyH_done (by kernel_rfl) ?_ _
          obtain rfl : R = ([], e, a) := HE.out.1 he
          go_wp2_with fail
          refine bodyPost_ret (v := .tuple #[.slice none 0 0, .agg #[.int .i64 e, .int .i64 a]]) (by simp [results, Tryz.results10, go_sem, World.cell?_alloc_past, y_0f, y_1f, y_0, y_1, c0_0, c0_1, c0_2, c0_3, c0_4, c0_5, c0_6, c0_7, ne_y_c0, ne_c0_y, ry, rya, ryb, ryc, ryn, rc0, rc0a, rc0b, rc0c, rc0n]; try rfl) rfl (RetEntV.nil (xs := [.agg #[.int .i64 e, .int .i64 a]]) ?_)
          exact (by repeat (first | with_reducible exact X57.out | with_reducible refine Ext.drew ?_ | with_reducible refine Ext.drewN ?_ _ | with_reducible refine Ext.alloc ?_ _ | with_reducible refine Ext.setCell ?_ (by first | omega | (simp; done) | (simp; omega)) _))
      · have hf5 : f5 = none := by cases hf5 : f5 with | none => rfl | some x => (have h := GB.out; rw [hf5, fltQ_some (GZ.out x hf5)] at h; cases h)
        have GN := Lib.hid (QI.go GQ.out (by rw [← hf5]; exact GS.out) GE.out)
        have GF := Lib.hid hf5
        clear hf5
        go_wp2_with fail
        (with_reducible refine (qone_ev xo xv xs xp xf xc xi xb (chkS xv xs xp xf) (lastQ out) ev A9 out.length c9 out _ rfl (Sl.own (OwnR.own (OwnR.butN HO.out (by repeat (first | with_reducible exact But.refl _ _ | with_reducible refine But.drew ?_ | with_reducible refine But.drewN ?_ _ | with_reducible refine But.alloc ?_ _ | with_reducible refine But.setCell ?_ (by first | exact Nat.le_refl _ | (dsimp only; omega)) _ | with_reducible refine But.setNew ?_ (by first | omega | (simp; done) | (simp; omega)) _))))) rfl GG.out).mono ?_)
        rintro e w57 ⟨rfl, hx57⟩
        replace y_0f : w57.frozen? ⟨w.heap.size, 0, none⟩ = false := hx57.froz (v := .int .i64 0) (by first | exact y_0 | (simp [go_sem, World.cell?_alloc_past, y_0f, y_1f, y_0, y_1, c0_0, c0_1, c0_2, c0_3, c0_4, c0_5, c0_6, c0_7, ne_y_c0, ne_c0_y, ry, rya, ryb, ryc, ryn, rc0, rc0a, rc0b, rc0c, rc0n]; done)) (by first | exact y_0f | (simp [go_sem, World.cell?_alloc_past, y_0f, y_1f, y_0, y_1, c0_0, c0_1, c0_2, c0_3, c0_4, c0_5, c0_6, c0_7, ne_y_c0, ne_c0_y, ry, rya, ryb, ryc, ryn, rc0, rc0a, rc0b, rc0c, rc0n]; done))
        replace y_1f : w57.frozen? ⟨w.heap.size, 1, none⟩ = false := hx57.froz (v := .int .i64 0) (by first | exact y_1 | (simp [go_sem, World.cell?_alloc_past, y_0f, y_1f, y_0, y_1, c0_0, c0_1, c0_2, c0_3, c0_4, c0_5, c0_6, c0_7, ne_y_c0, ne_c0_y, ry, rya, ryb, ryc, ryn, rc0, rc0a, rc0b, rc0c, rc0n]; done)) (by first | exact y_1f | (simp [go_sem, World.cell?_alloc_past, y_0f, y_1f, y_0, y_1, c0_0, c0_1, c0_2, c0_3, c0_4, c0_5, c0_6, c0_7, ne_y_c0, ne_c0_y, ry, rya, ryb, ryc, ryn, rc0, rc0a, rc0b, rc0c, rc0n]; done))
        replace y_0 : w57.cell? ⟨w.heap.size, 0, none⟩ = some (.int .i64 0) := hx57.has (by first | exact y_0 | (simp [go_sem, World.cell?_alloc_past, y_0f, y_1f, y_0, y_1, c0_0, c0_1, c0_2, c0_3, c0_4, c0_5, c0_6, c0_7, ne_y_c0, ne_c0_y, ry, rya, ryb, ryc, ryn, rc0, rc0a, rc0b, rc0c, rc0n]; done))
        replace y_1 : w57.cell? ⟨w.heap.size, 1, none⟩ = some (.int .i64 0) := hx57.has (by first | exact y_1 | (simp [go_sem, World.cell?_alloc_past, y_0f, y_1f, y_0, y_1, c0_0, c0_1, c0_2, c0_3, c0_4, c0_5, c0_6, c0_7, ne_y_c0, ne_c0_y, ry, rya, ryb, ryc, ryn, rc0, rc0a, rc0b, rc0c, rc0n]; done))
        replace c0_0 : w57.cell? ⟨w52.heap.size, 0, none⟩ = some (.int .i64 xo) := hx57.has (by first | exact c0_0 | (simp [go_sem, World.cell?_alloc_past, y_0f, y_1f, y_0, y_1, c0_0, c0_1, c0_2, c0_3, c0_4, c0_5, c0_6, c0_7, ne_y_c0, ne_c0_y, ry, rya, ryb, ryc, ryn, rc0, rc0a, rc0b, rc0c, rc0n]; done))
        replace c0_1 : w57.cell? ⟨w52.heap.size, 1, none⟩ = some (.int .i64 xv) := hx57.has (by first | exact c0_1 | (simp [go_sem, World.cell?_alloc_past, y_0f, y_1f, y_0, y_1, c0_0, c0_1, c0_2, c0_3, c0_4, c0_5, c0_6, c0_7, ne_y_c0, ne_c0_y, ry, rya, ryb, ryc, ryn, rc0, rc0a, rc0b, rc0c, rc0n]; done))
        replace c0_2 : w57.cell? ⟨w52.heap.size, 2, none⟩ = some (.int .i64 xs) := hx57.has (by first | exact c0_2 | (simp [go_sem, World.cell?_alloc_past, y_0f, y_1f, y_0, y_1, c0_0, c0_1, c0_2, c0_3, c0_4, c0_5, c0_6, c0_7, ne_y_c0, ne_c0_y, ry, rya, ryb, ryc, ryn, rc0, rc0a, rc0b, rc0c, rc0n]; done))
        replace c0_3 : w57.cell? ⟨w52.heap.size, 3, none⟩ = some (.int .i64 xp) := hx57.has (by first | exact c0_3 | (simp [go_sem, World.cell?_alloc_past, y_0f, y_1f, y_0, y_1, c0_0, c0_1, c0_2, c0_3, c0_4, c0_5, c0_6, c0_7, ne_y_c0, ne_c0_y, ry, rya, ryb, ryc, ryn, rc0, rc0a, rc0b, rc0c, rc0n]; done))
        replace c0_4 : w57.cell? ⟨w52.heap.size, 4, none⟩ = some (.int .i64 xf) := hx57.has (by first | exact c0_4 | (simp [go_sem, World.cell?_alloc_past, y_0f, y_1f, y_0, y_1, c0_0, c0_1, c0_2, c0_3, c0_4, c0_5, c0_6, c0_7, ne_y_c0, ne_c0_y, ry, rya, ryb, ryc, ryn, rc0, rc0a, rc0b, rc0c, rc0n]; done))
        replace c0_5 : w57.cell? ⟨w52.heap.size, 5, none⟩ = some (.int .i64 xc) := hx57.has (by first | exact c0_5 | (simp [go_sem, World.cell?_alloc_past, y_0f, y_1f, y_0, y_1, c0_0, c0_1, c0_2, c0_3, c0_4, c0_5, c0_6, c0_7, ne_y_c0, ne_c0_y, ry, rya, ryb, ryc, ryn, rc0, rc0a, rc0b, rc0c, rc0n]; done))
        replace c0_6 : w57.cell? ⟨w52.heap.size, 6, none⟩ = some (.int .u64 xi) := hx57.has (by first | exact c0_6 | (simp [go_sem, World.cell?_alloc_past, y_0f, y_1f, y_0, y_1, c0_0, c0_1, c0_2, c0_3, c0_4, c0_5, c0_6, c0_7, ne_y_c0, ne_c0_y, ry, rya, ryb, ryc, ryn, rc0, rc0a, rc0b, rc0c, rc0n]; done))
        replace c0_7 : w57.cell? ⟨w52.heap.size, 7, none⟩ = some (.int .u64 xb) := hx57.has (by first | exact c0_7 | (simp [go_sem, World.cell?_alloc_past, y_0f, y_1f, y_0, y_1, c0_0, c0_1, c0_2, c0_3, c0_4, c0_5, c0_6, c0_7, ne_y_c0, ne_c0_y, ry, rya, ryb, ryc, ryn, rc0, rc0a, rc0b, rc0c, rc0n]; done))
        have z57 := hx57.size
        try simp at z57
        replace ry : w.heap.size < w57.heap.size := by omega
        replace rya : w.heap.size < w57.heap.size + 1 := by omega
        replace ryb : w.heap.size < w57.heap.size + 1 + 1 := by omega
        replace ryc : w.heap.size < w57.heap.size + 1 + 1 + 1 := by omega
        replace ryn : ¬ w.heap.size = w57.heap.size := by omega
        replace rc0 : w52.heap.size < w57.heap.size := by omega
        replace rc0a : w52.heap.size < w57.heap.size + 1 := by omega
        replace rc0b : w52.heap.size < w57.heap.size + 1 + 1 := by omega
        replace rc0c : w52.heap.size < w57.heap.size + 1 + 1 + 1 := by omega
        replace rc0n : ¬ w52.heap.size = w57.heap.size := by omega
        replace HO := Lib.hid ((OwnR.butN HO.out (by repeat (first | with_reducible exact But.refl _ _ | with_reducible refine But.drew ?_ | with_reducible refine But.drewN ?_ _ | with_reducible refine But.alloc ?_ _ | with_reducible refine But.setCell ?_ (by first | exact Nat.le_refl _ | (dsimp only; omega)) _ | with_reducible refine But.setNew ?_ (by first | omega | (simp; done) | (simp; omega)) _))).ext hx57)
        replace HT := Lib.hid (HT.out.ext (Ext.trans (by repeat (first | with_reducible exact Ext.refl _ | with_reducible refine Ext.drew ?_ | with_reducible refine Ext.drewN ?_ _ | with_reducible refine Ext.alloc ?_ _ | with_reducible refine Ext.setCell ?_ (by first | omega | (simp; done) | (simp; omega)) _)) hx57))
        have X57 : Hid (Ext w w57) := Lib.hid (Ext.trans (by repeat (first | with_reducible exact X56.out | with_reducible refine Ext.drew ?_ | with_reducible refine Ext.drewN ?_ _ | with_reducible refine Ext.alloc ?_ _ | with_reducible refine Ext.setCell ?_ (by first | omega | (simp; done) | (simp; omega)) _)) hx57)
        clear X56 hx57 z57
        go_wp2_with fail
        (with_reducible refine (cFail_T (w52.heap.size) g k5 L f5 ev (atF f k) _ (HT.out.ext (by repeat (first | with_reducible exact Ext.refl _ | with_reducible refine Ext.drew ?_ | with_reducible refine Ext.drewN ?_ _ | with_reducible refine Ext.alloc ?_ _ | with_reducible refine Ext.setCell ?_ (by first | omega | (simp; done) | (simp; omega)) _)))).mono ?_)
        rintro e w58 ⟨⟨vv, rfl⟩, hRd, hx58⟩
        have hsz58 := hx58.size
        try simp at hsz58
        replace y_0f : w58.frozen? ⟨w.heap.size, 0, none⟩ = false := hx58.froz (by show ¬ _ = _; first | assumption | omega) (v := .int .i64 0) (by first | exact y_0 | (simp [go_sem, World.cell?_alloc_past, y_0f, y_1f, y_0, y_1, c0_0, c0_1, c0_2, c0_3, c0_4, c0_5, c0_6, c0_7, ne_y_c0, ne_c0_y, ry, rya, ryb, ryc, ryn, rc0, rc0a, rc0b, rc0c, rc0n]; done)) (by first | exact y_0f | (simp [go_sem, World.cell?_alloc_past, y_0f, y_1f, y_0, y_1, c0_0, c0_1, c0_2, c0_3, c0_4, c0_5, c0_6, c0_7, ne_y_c0, ne_c0_y, ry, rya, ryb, ryc, ryn, rc0, rc0a, rc0b, rc0c, rc0n]; done))
        replace y_1f : w58.frozen? ⟨w.heap.size, 1, none⟩ = false := hx58.froz (by show ¬ _ = _; first | assumption | omega) (v := .int .i64 0) (by first | exact y_1 | (simp [go_sem, World.cell?_alloc_past, y_0f, y_1f, y_0, y_1, c0_0, c0_1, c0_2, c0_3, c0_4, c0_5, c0_6, c0_7, ne_y_c0, ne_c0_y, ry, rya, ryb, ryc, ryn, rc0, rc0a, rc0b, rc0c, rc0n]; done)) (by first | exact y_1f | (simp [go_sem, World.cell?_alloc_past, y_0f, y_1f, y_0, y_1, c0_0, c0_1, c0_2, c0_3, c0_4, c0_5, c0_6, c0_7, ne_y_c0, ne_c0_y, ry, rya, ryb, ryc, ryn, rc0, rc0a, rc0b, rc0c, rc0n]; done))
        replace y_0 : w58.cell? ⟨w.heap.size, 0, none⟩ = some (.int .i64 0) := hx58.has (by show ¬ _ = _; first | assumption | omega) (by first | exact y_0 | (simp [go_sem, World.cell?_alloc_past, y_0f, y_1f, y_0, y_1, c0_0, c0_1, c0_2, c0_3, c0_4, c0_5, c0_6, c0_7, ne_y_c0, ne_c0_y, ry, rya, ryb, ryc, ryn, rc0, rc0a, rc0b, rc0c, rc0n]; done))
        replace y_1 : w58.cell? ⟨w.heap.size, 1, none⟩ = some (.int .i64 0) := hx58.has (by show ¬ _ = _; first | assumption | omega) (by first | exact y_1 | (simp [go_sem, World.cell?_alloc_past, y_0f, y_1f, y_0, y_1, c0_0, c0_1, c0_2, c0_3, c0_4, c0_5, c0_6, c0_7, ne_y_c0, ne_c0_y, ry, rya, ryb, ryc, ryn, rc0, rc0a, rc0b, rc0c, rc0n]; done))
        replace c0_0 : w58.cell? ⟨w52.heap.size, 0, none⟩ = some (.int .i64 xo) := hx58.has (by show ¬ _ = _; first | assumption | omega) (by first | exact c0_0 | (simp [go_sem, World.cell?_alloc_past, y_0f, y_1f, y_0, y_1, c0_0, c0_1, c0_2, c0_3, c0_4, c0_5, c0_6, c0_7, ne_y_c0, ne_c0_y, ry, rya, ryb, ryc, ryn, rc0, rc0a, rc0b, rc0c, rc0n]; done))
        replace c0_1 : w58.cell? ⟨w52.heap.size, 1, none⟩ = some (.int .i64 xv) := hx58.has (by show ¬ _ = _; first | assumption | omega) (by first | exact c0_1 | (simp [go_sem, World.cell?_alloc_past, y_0f, y_1f, y_0, y_1, c0_0, c0_1, c0_2, c0_3, c0_4, c0_5, c0_6, c0_7, ne_y_c0, ne_c0_y, ry, rya, ryb, ryc, ryn, rc0, rc0a, rc0b, rc0c, rc0n]; done))
        replace c0_2 : w58.cell? ⟨w52.heap.size, 2, none⟩ = some (.int .i64 xs) := hx58.has (by show ¬ _ = _; first | assumption | omega) (by first | exact c0_2 | (simp [go_sem, World.cell?_alloc_past, y_0f, y_1f, y_0, y_1, c0_0, c0_1, c0_2, c0_3, c0_4, c0_5, c0_6, c0_7, ne_y_c0, ne_c0_y, ry, rya, ryb, ryc, ryn, rc0, rc0a, rc0b, rc0c, rc0n]; done))
        replace c0_3 : w58.cell? ⟨w52.heap.size, 3, none⟩ = some (.int .i64 xp) := hx58.has (by show ¬ _ = _; first | assumption | omega) (by first | exact c0_3 | (simp [go_sem, World.cell?_alloc_past, y_0f, y_1f, y_0, y_1, c0_0, c0_1, c0_2, c0_3, c0_4, c0_5, c0_6, c0_7, ne_y_c0, ne_c0_y, ry, rya, ryb, ryc, ryn, rc0, rc0a, rc0b, rc0c, rc0n]; done))
        replace c0_4 : w58.cell? ⟨w52.heap.size, 4, none⟩ = some (.int .i64 xf) := hx58.has (by show ¬ _ = _; first | assumption | omega) (by first | exact c0_4 | (simp [go_sem, World.cell?_alloc_past, y_0f, y_1f, y_0, y_1, c0_0, c0_1, c0_2, c0_3, c0_4, c0_5, c0_6, c0_7, ne_y_c0, ne_c0_y, ry, rya, ryb, ryc, ryn, rc0, rc0a, rc0b, rc0c, rc0n]; done))
        replace c0_5 : w58.cell? ⟨w52.heap.size, 5, none⟩ = some (.int .i64 xc) := hx58.has (by show ¬ _ = _; first | assumption | omega) (by first | exact c0_5 | (simp [go_sem, World.cell?_alloc_past, y_0f, y_1f, y_0, y_1, c0_0, c0_1, c0_2, c0_3, c0_4, c0_5, c0_6, c0_7, ne_y_c0, ne_c0_y, ry, rya, ryb, ryc, ryn, rc0, rc0a, rc0b, rc0c, rc0n]; done))
        replace c0_6 : w58.cell? ⟨w52.heap.size, 6, none⟩ = some (.int .u64 xi) := hx58.has (by show ¬ _ = _; first | assumption | omega) (by first | exact c0_6 | (simp [go_sem, World.cell?_alloc_past, y_0f, y_1f, y_0, y_1, c0_0, c0_1, c0_2, c0_3, c0_4, c0_5, c0_6, c0_7, ne_y_c0, ne_c0_y, ry, rya, ryb, ryc, ryn, rc0, rc0a, rc0b, rc0c, rc0n]; done))
        replace c0_7 : w58.cell? ⟨w52.heap.size, 7, none⟩ = some (.int .u64 xb) := hx58.has (by show ¬ _ = _; first | assumption | omega) (by first | exact c0_7 | (simp [go_sem, World.cell?_alloc_past, y_0f, y_1f, y_0, y_1, c0_0, c0_1, c0_2, c0_3, c0_4, c0_5, c0_6, c0_7, ne_y_c0, ne_c0_y, ry, rya, ryb, ryc, ryn, rc0, rc0a, rc0b, rc0c, rc0n]; done))
        have z58 := hx58.size
        try simp at z58
        replace ry : w.heap.size < w58.heap.size := by omega
        replace rya : w.heap.size < w58.heap.size + 1 := by omega
        replace ryb : w.heap.size < w58.heap.size + 1 + 1 := by omega
        replace ryc : w.heap.size < w58.heap.size + 1 + 1 + 1 := by omega
        replace ryn : ¬ w.heap.size = w58.heap.size := by omega
        replace rc0 : w52.heap.size < w58.heap.size := by omega
        replace rc0a : w52.heap.size < w58.heap.size + 1 := by omega
        replace rc0b : w52.heap.size < w58.heap.size + 1 + 1 := by omega
        replace rc0c : w52.heap.size < w58.heap.size + 1 + 1 + 1 := by omega
        replace rc0n : ¬ w52.heap.size = w58.heap.size := by omega
        have X58 : Hid (Ext w w58) := Lib.hid (have hX := (show Ext w _ from (by repeat (first | with_reducible exact X57.out | with_reducible refine Ext.drew ?_ | with_reducible refine Ext.drewN ?_ _ | with_reducible refine Ext.alloc ?_ _ | with_reducible refine Ext.setCell ?_ (by first | omega | (simp; done) | (simp; omega)) _))); Below.trans hX (hx58.below (Ext.size hX) (fun k hk hh => by have hh2 : k = g := hh; omega)))
        replace HO := Lib.hid (OwnR.but (OwnR.butN HO.out (by repeat (first | with_reducible exact But.refl _ _ | with_reducible refine But.drew ?_ | with_reducible refine But.drewN ?_ _ | with_reducible refine But.alloc ?_ _ | with_reducible refine But.setCell ?_ (by first | exact Nat.le_refl _ | (dsimp only; omega)) _ | with_reducible refine But.setNew ?_ (by first | omega | (simp; done) | (simp; omega)) _))) hx58 (by intro j h1 h2 hh; have h3 : j = g := hh; omega))
        clear HT
        have HT := Lib.hid hRd
        clear hsz58 X57 hx58 z58 hRd
        have HO2 := Lib.hid (OwnR.own HO.out)
        have hgq := HT.out.rd.lt
        have hzA := Ext.size (by repeat (first | with_reducible exact X58.out | with_reducible refine Ext.drew ?_ | with_reducible refine Ext.drewN ?_ _ | with_reducible refine Ext.alloc ?_ _ | with_reducible refine Ext.setCell ?_ (by first | omega | (simp; done) | (simp; omega)) _))
        clear HO
        go_wp2_with (at_builtin; refine wpList_append_slB (w58.alloc (.cells #[.int .i64 xo, .int .i64 xv, .int .i64 xs, .int .i64 xp, .int .i64 xf, .int .i64 xc, .int .u64 xi, .int .u64 xb] 53)) rfl _ _ 22 rfl (g + 1) 53 i0 (.agg #[.int .i64 0, .int .i64 0, .int .i64 0, .int .i64 0, .int .i64 0, .int .i64 0, .int .u64 0, .int .u64 0]) 8 64 Tryz.underlying22 hi0 hz0 hz1 hz2 rfl (by decide) (.slice A9 out.length c9) out.length _ (by rfl) (HO2.out.alloc _) (some ⟨w58.heap.size, 0, none⟩) 1 1 (entC (xo, xv, xs, xp, xf, xc, xi, xb)) (by first | rfl | simp [Act.eval, go_sem]) (sl_new w58 53 8 #[.int .i64 xo, .int .i64 xv, .int .i64 xs, .int .i64 xp, .int .i64 xf, .int .i64 xc, .int .u64 xi, .int .u64 xb] 1 rfl (by decide)) (by intro u hu; simp [entC] at hu; rcases hu with rfl | rfl | rfl | rfl | rfl | rfl | rfl | rfl <;> rfl) (by have := GQ.out.2.2.1; omega) (by decide) (by simp; omega) ?_; intro v2 wn hown2 hb2 hn2)
        have XA := (Ext.refl w58).alloc (.cells #[.int .i64 xo, .int .i64 xv, .int .i64 xs, .int .i64 xp, .int .i64 xf, .int .i64 xc, .int .u64 xi, .int .u64 xb] 53)
        have HOa := HO2.out.alloc (.cells #[.int .i64 xo, .int .i64 xv, .int .i64 xs, .int .i64 xp, .int .i64 xf, .int .i64 xc, .int .u64 xi, .int .u64 xb] 53)
        have hwb : ¬ (Value.slice A9 out.length c9).ownBlock = some w.heap.size := fun hh => by have := (own_block HOa hh).1; omega
        have hyb := y_0
        go_roundg (gk - 1)
        case measure => have := HK.out; omega
        case rel =>
          have e : N - (gk - 1) = j + 1 := by have := HK.out; omega
          rw [e]
          refine ⟨by have := HK.out; omega, num_eq (by have := HK.out; omega), ⟨_, _, _, Lib.hid ?_, Lib.hid ?_, GN⟩, ⟨?_, ?_, ?_, ?_⟩, ?_⟩
          · rw [← GF.out]
            exact (HT.out.rd.ext XA).butT hb2 (own_ne_fault HOa (by omega) (by decide))
          · rw [List.length_append]
            unfold OwnEnt
            rw [List.flatMap_append]
            simpa using hown2
          · exact hb2.has hwb (XA.has y_0)
          · exact hb2.has hwb (XA.has y_1)
          · exact hb2.froz hwb (XA.has y_0) (XA.froz y_0 y_0f)
          · exact hb2.froz hwb (XA.has y_1) (XA.froz y_1 y_1f)
          · exact Below.trans (Ext.trans X58.out XA) (hb2.below (Ext.trans X58.out XA).size (fun k hk hh => by have := (own_block HOa hh).1; omega))
end
end Go.Proofs.YtnbeejgppooamaaGreat
