/- What the law Que rests on, part 6 of 6: Q16, QTakesW, Q17, AppTwoG, QRipensW. Conditions stand in each lemma. -/
import Derived.WalkKit
import Derived.Deep.QuietTactic
import Derived.Deep.Draws
import Derived.Laws.OwnMore
import Derived.Laws.AppendOwn
import Derived.OwnWalk
import Derived.RangeFuncBox
import Derived.RangeFuncLeaves
import Derived.Shelf.Abstract
import Derived.OwnWalkIn
import Derived.TacticsInMore
import Derived.LoopNIn
import Derived.LoopIn
import Derived.Maps.AppendAt
import Derived.Test.YtnbeejgppooamaaRows
import Derived.Lib.Hide
import Derived.Deep.Onto
import Derived.ProofKit
import Derived.ChangeOld
import Derived.OpenShut
import Derived.Deep.Slices
import Derived.BigQuiet
import Derived.IntWalk
import Derived.Lib.SliceRun
import Derived.Deep.LoopGhost
import Derived.WalkSpells
import Derived.WalkLawsBesides
import Derived.Deep.RegionHeld3
import Derived.Lib.SmallJoins
import Derived.ArgAppend
import Derived.Test.YtnbeejgppooamaaShelf
import Derived.Test.YtnbeejgppooamaaDivNorm
import Derived.Deep.DeepCutAuto
import Derived.Deep.CutBlock
import Derived.Shelf.Spec.BitsCarry
import Derived.Test.YtnbeejgppooamaaFixRefMath
import Derived.Test.YtnbeejgppooamaaFixDivideMath
import Derived.WalkMore
import Derived.Laws.StructEq
import Derived.Laws.BytesArg
import Derived.Test.YtnbeejgppooamaaSlQue5
set_option linter.unusedVariables false
set_option linter.unusedSimpArgs false
namespace Go.Proofs.Ytnbeejgppooamaa
section
open Go.RowKit
theorem cutL_at (l : List (Int × Int × Int × Int × Int × Int × Int × Int)) (v h p : Int) : ∀ (k : Nat) {j : Nat} {x : (Int × Int × Int × Int × Int × Int × Int × Int)}, j < k → l[j]? = some x → (cutL l v h p k)[j]? = some (if bkE x v h = true then cutX x p else x)
  | 0, j, x, hj, _ => absurd hj (by omega)
  | k + 1, j, x, hj, hx => by
    rcases e : l[k]? with _ | y
    · have hk : cutL l v h p (k + 1) = cutL l v h p k := by rw [cutL, e]
      rw [hk]
      rcases Nat.lt_or_ge j k with hjk | hjk
      · exact cutL_at l v h p k hjk hx
      · obtain rfl : j = k := by omega
        rw [e] at hx
        cases hx
    · rcases Nat.lt_or_ge j k with hjk | hjk
      · have ih := cutL_at l v h p k hjk hx
        cases hb : bkE y v h with
        | true => rw [(cut_t e hb).1, List.getElem?_set_ne (by omega)]; exact ih
        | false => rw [(cut_f e hb).1]; exact ih
      · obtain rfl : j = k := by omega
        rw [hx] at e
        obtain rfl := Option.some.inj e
        cases hb : bkE x v h with
        | true => rw [(cut_t hx hb).1, List.getElem?_set_self (by rw [cutL_len]; exact (List.getElem?_eq_some_iff.1 hx).1)]; rfl
        | false => rw [(cut_f hx hb).1, cutL_get l v h p j (Nat.le_refl _), hx]; rfl
/-- an entry behind a cut -/
def cutF (v h p : Int) (x : (Int × Int × Int × Int × Int × Int × Int × Int)) : (Int × Int × Int × Int × Int × Int × Int × Int) := if bkE x v h = true then cutX x p else x
theorem cutL_map (l : List (Int × Int × Int × Int × Int × Int × Int × Int)) (v h p : Int) : cutL l v h p l.length = l.map (cutF v h p) := by
  refine List.ext_getElem? (fun j => ?_)
  rw [List.getElem?_map]
  rcases e : l[j]? with _ | x
  · rw [List.getElem?_eq_none (by rw [cutL_len]; exact List.getElem?_eq_none_iff.1 e)]
    rfl
  · rw [cutL_at l v h p l.length (List.getElem?_eq_some_iff.1 e).1 e]
    rfl
theorem cutS_pre (l : List (Int × Int × Int × Int × Int × Int × Int × Int)) (v h p : Int) (k : Nat) : ∀ m, ∃ r, cutS l v h p (k + m) = cutS l v h p k ++ r
  | 0 => ⟨[], by simp⟩
  | m + 1 => by
    obtain ⟨r, hr⟩ := cutS_pre l v h p k m
    rcases e : l[k + m]? with _ | x
    · exact ⟨r, by show cutS l v h p (k + m + 1) = _; rw [cutS, e]; exact hr⟩
    · cases hb : bkE x v h with
      | true => exact ⟨r ++ [(((k + m : Nat) : Int), prt (baE x) p)], by show cutS l v h p (k + m + 1) = _; rw [(cut_t e hb).2.1, hr, List.append_assoc]⟩
      | false => exact ⟨r, by show cutS l v h p (k + m + 1) = _; rw [(cut_f e hb).2.1, hr]⟩
theorem cutS_at {l : List (Int × Int × Int × Int × Int × Int × Int × Int)} {v h p : Int} {k n : Nat} {x : (Int × Int × Int × Int × Int × Int × Int × Int)} (hk : k < n) (hx : l[k]? = some x) (hb : bkE x v h = true) : (cutS l v h p n)[(cutS l v h p k).length]? = some ((k : Int), prt (baE x) p) := by
  obtain ⟨r, hr⟩ := cutS_pre l v h p (k + 1) (n - (k + 1))
  rw [show k + 1 + (n - (k + 1)) = n from by omega] at hr
  rw [hr, (cut_t hx hb).2.1, List.append_assoc, List.getElem?_append_right (Nat.le_refl _), Nat.sub_self]
  rfl
theorem cutF_cr (v h p : Int) (x : (Int × Int × Int × Int × Int × Int × Int × Int)) : crE (cutF v h p x) = crE x := by
  unfold cutF
  split <;> rfl
theorem cutF_bk (v h p v' h' : Int) (x : (Int × Int × Int × Int × Int × Int × Int × Int)) : bkE (cutF v h p x) v' h' = bkE x v' h' := by
  unfold cutF
  split <;> rfl
theorem cutF_ba {v h p : Int} {x : (Int × Int × Int × Int × Int × Int × Int × Int)} (hx : FitsQ x) (h0 : 0 ≤ p) (h1 : p ≤ 1000000000) : 0 ≤ baE (cutF v h p x) ∧ baE (cutF v h p x) ≤ baE x := by
  obtain ⟨b1, b2, _⟩ := prt_bounds hx.ba.1 h0 h1
  have := hx.ba.1
  unfold cutF
  split
  · show 0 ≤ baE x - prt (baE x) p ∧ baE x - prt (baE x) p ≤ baE x
    omega
  · omega
theorem cutF_fits {v h p : Int} {x : (Int × Int × Int × Int × Int × Int × Int × Int)} (hx : FitsQ x) (h0 : 0 ≤ p) (h1 : p ≤ 1000000000) : FitsQ (cutF v h p x) := by
  obtain ⟨b1, b2⟩ := cutF_ba (v := v) (h := h) hx h0 h1
  have hb := hx.ba.2
  obtain ⟨f1, f2, f3, f4, f5, f6, f7, f8⟩ := hx
  have hw : Word (baE (cutF v h p x)) := ⟨b1, by omega⟩
  unfold cutF at hw ⊢
  split
  · rename_i hk
    rw [if_pos hk] at hw
    exact ⟨f1, f2, f3, f4, f5, f6, f7, hw⟩
  · exact ⟨f1, f2, f3, f4, f5, f6, f7, f8⟩
theorem cutF_one {v h p a : Int} {x : (Int × Int × Int × Int × Int × Int × Int × Int)} (hx : FitsQ x) (h0 : 0 ≤ p) (h1 : p ≤ 1000000000) (ho : oneQ x a = 0) : oneQ (cutF v h p x) a = 0 := by
  obtain ⟨b1, b2, _⟩ := prt_bounds hx.ba.1 h0 h1
  obtain ⟨r1, r2, r3, r4, r5, r6, r7, r8, r9⟩ := oneQ_cases ho
  unfold cutF
  split
  · show oneG x.1 (chkS x.2.1 x.2.2.1 x.2.2.2.1 x.2.2.2.2.1) (crE x) x.2.2.1 a x.2.2.2.2.2.2.1 (baE x - prt (baE x) p) = 0
    unfold oneG
    rw [if_neg (by omega), if_neg (by omega), if_neg (by simpa using r3), if_neg (by omega), if_neg (by omega), if_neg (by omega), if_neg (by omega), if_neg (by omega), if_neg (by omega)]
  · exact ho
theorem chkGo_cut {v h p : Int} (h0 : 0 ≤ p) (h1 : p ≤ 1000000000) : ∀ {l : List (Int × Int × Int × Int × Int × Int × Int × Int)} {a : Int} {k : Nat}, (∀ x ∈ l, FitsQ x) → (chkGo a k l).1 = 0 → (chkGo a k (l.map (cutF v h p))).1 = 0
  | [], _, _, _, _ => rfl
  | x :: l, a, k, hf, hc => by
    rw [List.map_cons]
    unfold chkGo at hc ⊢
    by_cases hx : oneQ x a = 0
    · rw [if_neg (by simpa using hx)] at hc
      rw [if_neg (by have := cutF_one (v := v) (h := h) (hf x (List.mem_cons_self ..)) h0 h1 hx; simpa using this), cutF_cr]
      exact chkGo_cut h0 h1 (fun y hy => hf y (List.mem_cons_of_mem _ hy)) hc
    · rw [if_pos hx] at hc
      exact absurd hc hx
theorem totB_cut {v h p : Int} (h0 : 0 ≤ p) (h1 : p ≤ 1000000000) : ∀ {l : List (Int × Int × Int × Int × Int × Int × Int × Int)}, (∀ x ∈ l, FitsQ x) → totB (l.map (cutF v h p)) ≤ totB l
  | [], _ => Int.le_refl _
  | x :: l, hf => by
    have b := (cutF_ba (v := v) (h := h) (hf x (List.mem_cons_self ..)) h0 h1).2
    have ih := totB_cut (v := v) (h := h) h0 h1 (fun y hy => hf y (List.mem_cons_of_mem _ hy))
    rw [List.map_cons]
    show baE (cutF v h p x) + totB (l.map (cutF v h p)) ≤ baE x + totB l
    omega
theorem chkQ_parts2 {l : List (Int × Int × Int × Int × Int × Int × Int × Int)} (h : (chkQ l).1 = 0) : l.length ≤ 32768 ∧ (chkGo 0 0 l).1 = 0 ∧ totB l ≤ 4611686018427387904 := by
  unfold chkQ at h
  by_cases h1 : 32768 < l.length
  · rw [if_pos h1] at h; cases h
  · rw [if_neg h1] at h
    by_cases h2 : (chkGo 0 0 l).1 = 0
    · rw [if_neg (by simpa using h2)] at h
      by_cases h3 : totB l ≤ 4611686018427387904
      · exact ⟨by omega, h2, h3⟩
      · rw [if_neg h3] at h; cases h
    · rw [if_pos h2] at h; exact absurd h h2
theorem chkQ_cut {l : List (Int × Int × Int × Int × Int × Int × Int × Int)} {v h p : Int} (h0 : 0 ≤ p) (h1 : p ≤ 1000000000) (hf : ∀ x ∈ l, FitsQ x) (hc : (chkQ l).1 = 0) : (chkQ (l.map (cutF v h p))).1 = 0 := by
  obtain ⟨c1, c2, c3⟩ := chkQ_parts2 hc
  have t := totB_cut (v := v) (h := h) h0 h1 hf
  unfold chkQ
  rw [List.length_map, if_neg (by omega), if_neg (by simpa using chkGo_cut (v := v) (h := h) h0 h1 hf c2), if_pos (by omega)]
/-- two parts one behind the other are not more than both at once -/
theorem prt_two {b p q : Int} (hb : 0 ≤ b) (hp : 0 ≤ p) (hq : 0 ≤ q) (h : p + q ≤ 1000000000) : prt b p + prt (b - prt b p) q ≤ prt b (p + q) := by
  obtain ⟨a1, a2, a3, a4⟩ := prt_bounds hb hp (by omega)
  obtain ⟨c1, c2, c3, c4⟩ := prt_bounds (a := b - prt b p) (p := q) (by omega) hq (by omega)
  obtain ⟨d1, d2, d3, d4⟩ := prt_bounds (a := b) (p := p + q) hb (by omega) h
  rw [Int.mul_add] at d3 d4
  rw [Int.sub_mul] at c3 c4
  have m := Int.mul_nonneg a1 hq
  generalize prt b p * q = X at *
  generalize b * p = Y at *
  generalize b * q = Z at *
  omega
theorem cutF_two {v h p q : Int} {x : (Int × Int × Int × Int × Int × Int × Int × Int)} (hx : FitsQ x) (hp : 0 ≤ p) (hq : 0 ≤ q) (h2 : p + q ≤ 1000000000) : baE (cutF v h (p + q) x) ≤ baE (cutF v h q (cutF v h p x)) := by
  have k1 : cutF v h q (cutF v h p x) = if bkE x v h = true then cutX (cutF v h p x) q else cutF v h p x := by
    conv => lhs; unfold cutF
    rw [show bkE (if bkE x v h = true then cutX x p else x) v h = bkE x v h from cutF_bk v h p v h x]
    rfl
  rw [k1]
  have t := prt_two hx.ba.1 hp hq h2
  cases hb : bkE x v h with
  | true =>
    rw [if_pos rfl]
    unfold cutF
    rw [if_pos hb, if_pos hb]
    show baE x - prt (baE x) (p + q) ≤ (baE x - prt (baE x) p) - prt (baE x - prt (baE x) p) q
    omega
  | false =>
    rw [if_neg (by simp)]
    unfold cutF
    rw [if_neg (by simp [hb]), if_neg (by simp [hb])]
    exact Int.le_refl _
/-- when a cut may be -/
theorem cutV_ok {l : List (Int × Int × Int × Int × Int × Int × Int × Int)} {v h p : Int} (hc : (chkQ l).1 = 0) (hp : p ≤ 1000000000) (hv : 0 ≤ v ∧ v < 32 ∧ 1 ≤ h ∧ h ≤ 4294967296) : cutV l v h p = (l.map (cutF v h p), cutS l v h p l.length, cutA l v h p l.length, 0) := by
  have e : cutE l v h p = 0 := by
    unfold cutE cutG
    obtain ⟨h1, h2, h3, h4⟩ := hv
    rw [if_neg (by simpa using hc), if_neg (by omega), if_neg (by omega), if_neg (by simp; omega), if_neg (by omega)]
  unfold cutV
  rw [if_pos e, cutL_map]
theorem cutV_no {l : List (Int × Int × Int × Int × Int × Int × Int × Int)} {v h p : Int} (hc : (chkQ l).1 = 0) (hp : p ≤ 1000000000) (hv : ¬ (0 ≤ v ∧ v < 32 ∧ 1 ≤ h ∧ h ≤ 4294967296)) : cutV l v h p = ([], [], 0, 3) := by
  have e : cutE l v h p = 3 := by
    unfold cutE cutG
    rw [if_neg (by simpa using hc)]
    by_cases h1 : v < 0
    · rw [if_pos h1]
    · rw [if_neg h1]
      by_cases h2 : 32 ≤ v
      · rw [if_pos h2]
      · rw [if_neg h2, if_pos (by simp; omega)]
  unfold cutV
  rw [if_neg (by omega), e]
end
section
open Go.RowKit Go.ChangeShapes Go.WideShapes Go.Deep Go.Joins
theorem entC_same (x0 x1 x2 x3 x4 x5 x6 x7 : Int) (w : World) : (binOp .neq 27 (.agg #[.int .i64 x0, .int .i64 x1, .int .i64 x2, .int .i64 x3, .int .i64 x4, .int .i64 x5, .int .u64 x6, .int .u64 x7]) (.agg #[.int .i64 x0, .int .i64 x1, .int .i64 x2, .int .i64 x3, .int .i64 x4, .int .i64 x5, .int .u64 x6, .int .u64 x7])).run Try.prog w = .ok (.bool false) w := by
  have hS : Try.prog.underlying 27 = some (.struct (Try.prog.fieldsOf 27)) := by kernel_rfl
  have hp : Try.prog.stoodInHeld 27 = false := by kernel_rfl
  rw [run_neq_struct, show (10000 : Nat) = 9999 + 1 from rfl, run_equalIn_agg w 9999 27 _ _ hS hp]
  simp only [Program.fieldsOf, Try.underlying27]
  simp [go_sem, entC_eqIn, Op.eqFields]
theorem qcut_evn (A : Option Addr) (n c : Nat) (l R : List (Int × Int × Int × Int × Int × Int × Int × Int)) (S : List (Int × Int)) (v h p U er : Int) (nR nS : Nat) (w : World) (hs : Sl w 8 A n c (l.flatMap entC)) (hn : n ≤ 100000) (hf : ∀ x ∈ l, FitsQ x) (hnil : A = none → c = 0) (hh : h ≤ 9223372036854775807) (hp : Word p) (hv : (R, S, U, er) = cutV l v h p) (h1 : R.length = nR) (h2 : S.length = nS) :
    Calls Try.prog 18 #[.slice A n c, .int .i64 v, .int .i64 h, .int .u64 p] w fun e w' => ∃ A1 c1 A2 c2, e = .returned (.tuple #[.slice A1 nR c1, .slice A2 nS c2, .int .u64 U, .int .i64 er]) ∧ (A1 = none → c1 = 0) ∧ (A2 = none → c2 = 0) ∧ OwnEnt w' w.heap.size (.slice A1 nR c1) nR R ∧ OwnShave w' w.heap.size (.slice A2 nS c2) nS S ∧ (∀ b o s b' o' s', A1 = some ⟨b, o, s⟩ → A2 = some ⟨b', o', s'⟩ → b ≠ b') ∧ Ext w w' := by
  subst h1; subst h2
  exact qcut_ev A n c l R S v h p U er w hs hn hf hnil hh hp hv
theorem mod_in {x d : Int} (hx : 0 ≤ x) (hd : 0 < d) : 0 ≤ x % d ∧ x % d < d := ⟨Int.emod_nonneg _ (by omega), Int.emod_lt_of_pos _ hd⟩
set_option maxRecDepth 100000 in
set_option maxHeartbeats 4000000 in
theorem QueueTakes_chk (A : Option Addr) (n c : Nat) (l : List (Int × Int × Int × Int × Int × Int × Int × Int)) (v h p q e1 e2 : Int) (w : World) (hs : Sl w 8 A n c (l.flatMap entC)) (hf : ∀ x ∈ l, FitsQ x) (he : (e1, e2) = chkQ l) (hne : e1 ≠ 0) :
    Calls Try.prog 8 #[.slice A n c, .int .i64 v, .int .i64 h, .int .u64 p, .int .u64 q] w fun r w' => r = .returned (.bool true) ∧ Ext w w' := by
  have hns := hs.small
  have HS := Lib.hid hs
  have HF := Lib.hid hf
  have HE := Lib.hid he
  have e7 : (e1 != 0) = true := by simpa using hne
  clear hs hf he hne
  go_enter Try.func8, Try.ntmps8
  go_wp2_with fail
  (with_reducible refine (QueueKnown_any _).mono ?_)
  rintro e w1 ⟨rfl, hx1⟩
  have z1 := hx1.size
  try simp at z1
  replace HS := Lib.hid (HS.out.ext (Ext.trans (by repeat (first | with_reducible exact Ext.refl _ | with_reducible refine Ext.drew ?_ | with_reducible refine Ext.drewN ?_ _ | with_reducible refine Ext.alloc ?_ _ | with_reducible refine Ext.setCell ?_ (by first | omega | (simp; done) | (simp; omega)) _)) hx1))
  have X1 : Hid (Ext w w1) := Lib.hid (Ext.trans (by repeat (first | with_reducible exact Ext.refl w | with_reducible refine Ext.drew ?_ | with_reducible refine Ext.drewN ?_ _ | with_reducible refine Ext.alloc ?_ _ | with_reducible refine Ext.setCell ?_ (by first | omega | (simp; done) | (simp; omega)) _)) hx1)
  clear hx1 z1
  go_wp2_with fail
  (with_reducible refine (qcheck_ev A n c l e1 e2 _ (HS.out.ext (by repeat (first | with_reducible exact Ext.refl _ | with_reducible refine Ext.drew ?_ | with_reducible refine Ext.drewN ?_ _ | with_reducible refine Ext.alloc ?_ _ | with_reducible refine Ext.setCell ?_ (by first | omega | (simp; done) | (simp; omega)) _))) HF.out HE.out).mono ?_)
  rintro e w2 ⟨rfl, hx2⟩
  have z2 := hx2.size
  try simp at z2
  replace HS := Lib.hid (HS.out.ext (Ext.trans (by repeat (first | with_reducible exact Ext.refl _ | with_reducible refine Ext.drew ?_ | with_reducible refine Ext.drewN ?_ _ | with_reducible refine Ext.alloc ?_ _ | with_reducible refine Ext.setCell ?_ (by first | omega | (simp; done) | (simp; omega)) _)) hx2))
  have X2 : Hid (Ext w w2) := Lib.hid (Ext.trans (by repeat (first | with_reducible exact X1.out | with_reducible refine Ext.drew ?_ | with_reducible refine Ext.drewN ?_ _ | with_reducible refine Ext.alloc ?_ _ | with_reducible refine Ext.setCell ?_ (by first | omega | (simp; done) | (simp; omega)) _)) hx2)
  clear X1 hx2 z2
  go_wp2_with fail
  go_ret
  exact ⟨rfl, (by repeat (first | with_reducible exact X2.out | with_reducible refine Ext.drew ?_ | with_reducible refine Ext.drewN ?_ _ | with_reducible refine Ext.alloc ?_ _ | with_reducible refine Ext.setCell ?_ (by first | omega | (simp; done) | (simp; omega)) _))⟩
set_option maxRecDepth 100000 in
set_option maxHeartbeats 4000000 in
theorem QueueTakes_long (A : Option Addr) (n c : Nat) (l : List (Int × Int × Int × Int × Int × Int × Int × Int)) (v h p q e1 e2 : Int) (w : World) (hs : Sl w 8 A n c (l.flatMap entC)) (hf : ∀ x ∈ l, FitsQ x) (he : (e1, e2) = chkQ l) (h0 : e1 = 0) (hl : ¬ n ≤ 40) :
    Calls Try.prog 8 #[.slice A n c, .int .i64 v, .int .i64 h, .int .u64 p, .int .u64 q] w fun r w' => r = .returned (.bool true) ∧ Ext w w' := by
  subst h0
  have hns := hs.small
  have HS := Lib.hid hs
  have HF := Lib.hid hf
  have HE := Lib.hid he
  have hMd : (40 : Int) < (n : Int) := by omega
  clear hs hf he hl
  go_enter Try.func8, Try.ntmps8
  go_wp2_with fail
  (with_reducible refine (QueueKnown_any _).mono ?_)
  rintro e w1 ⟨rfl, hx1⟩
  have z1 := hx1.size
  try simp at z1
  replace HS := Lib.hid (HS.out.ext (Ext.trans (by repeat (first | with_reducible exact Ext.refl _ | with_reducible refine Ext.drew ?_ | with_reducible refine Ext.drewN ?_ _ | with_reducible refine Ext.alloc ?_ _ | with_reducible refine Ext.setCell ?_ (by first | omega | (simp; done) | (simp; omega)) _)) hx1))
  have X1 : Hid (Ext w w1) := Lib.hid (Ext.trans (by repeat (first | with_reducible exact Ext.refl w | with_reducible refine Ext.drew ?_ | with_reducible refine Ext.drewN ?_ _ | with_reducible refine Ext.alloc ?_ _ | with_reducible refine Ext.setCell ?_ (by first | omega | (simp; done) | (simp; omega)) _)) hx1)
  clear hx1 z1
  go_wp2_with fail
  (with_reducible refine (qcheck_ev A n c l 0 e2 _ (HS.out.ext (by repeat (first | with_reducible exact Ext.refl _ | with_reducible refine Ext.drew ?_ | with_reducible refine Ext.drewN ?_ _ | with_reducible refine Ext.alloc ?_ _ | with_reducible refine Ext.setCell ?_ (by first | omega | (simp; done) | (simp; omega)) _))) HF.out HE.out).mono ?_)
  rintro e w2 ⟨rfl, hx2⟩
  have z2 := hx2.size
  try simp at z2
  replace HS := Lib.hid (HS.out.ext (Ext.trans (by repeat (first | with_reducible exact Ext.refl _ | with_reducible refine Ext.drew ?_ | with_reducible refine Ext.drewN ?_ _ | with_reducible refine Ext.alloc ?_ _ | with_reducible refine Ext.setCell ?_ (by first | omega | (simp; done) | (simp; omega)) _)) hx2))
  have X2 : Hid (Ext w w2) := Lib.hid (Ext.trans (by repeat (first | with_reducible exact X1.out | with_reducible refine Ext.drew ?_ | with_reducible refine Ext.drewN ?_ _ | with_reducible refine Ext.alloc ?_ _ | with_reducible refine Ext.setCell ?_ (by first | omega | (simp; done) | (simp; omega)) _)) hx2)
  clear X1 hx2 z2
  go_wp2_with fail
  go_ret
  exact ⟨rfl, (by repeat (first | with_reducible exact X2.out | with_reducible refine Ext.drew ?_ | with_reducible refine Ext.drewN ?_ _ | with_reducible refine Ext.alloc ?_ _ | with_reducible refine Ext.setCell ?_ (by first | omega | (simp; done) | (simp; omega)) _))⟩
set_option maxRecDepth 100000 in
set_option maxHeartbeats 4000000 in
theorem QueueTakes_no (A : Option Addr) (n c : Nat) (l : List (Int × Int × Int × Int × Int × Int × Int × Int)) (v h p q e1 e2 : Int) (w : World) (hs : Sl w 8 A n c (l.flatMap entC)) (hf : ∀ x ∈ l, FitsQ x) (he : (e1, e2) = chkQ l) (hnil : A = none → c = 0) (h0 : e1 = 0) (hl : n ≤ 40) (hh : h ≤ 9223372036854775807) (p1 q1 : Int) (hp : p % 1000000001 = p1) (hq : q % (1000000000 - p1 + 1) = q1) (hpn : 0 ≤ p) (hqn : 0 ≤ q) (hp0 : 0 ≤ p1) (hp1 : p1 ≤ 1000000000) (hq0 : 0 ≤ q1) (hq1 : p1 + q1 ≤ 1000000000) (hno : ¬ (0 ≤ v ∧ v < 32 ∧ 1 ≤ h ∧ h ≤ 4294967296)) (hv : ([], [], 0, 3) = cutV l v h p1) :
    Calls Try.prog 8 #[.slice A n c, .int .i64 v, .int .i64 h, .int .u64 p, .int .u64 q] w fun r w' => r = .returned (.bool true) ∧ Ext w w' := by
  subst h0
  have hns := hs.small
  have HS := Lib.hid hs
  have HF := Lib.hid hf
  have HE := Lib.hid he
  have hMd : ¬ (40 : Int) < (n : Int) := by omega
  have hpt : p.tmod 1000000001 = p1 := by rw [Int.tmod_eq_emod_of_nonneg hpn]; exact hp
  have hqt : q.tmod (1000000000 - p1 + 1) = q1 := by rw [Int.tmod_eq_emod_of_nonneg hqn]; exact hq
  have hz9 : ¬ 1000000000 - p1 + 1 = 0 := by omega
  have hz8 : (1000000000 - p1 + 1 == 0) = false := by simpa using hz9
  clear hpn hqn
  have HN := Lib.hid hnil
  have HH := Lib.hid hh
  have HWP : Hid (Word p1) := Lib.hid ⟨hp0, by omega⟩
  have HWQ : Hid (Word q1) := Lib.hid ⟨hq0, by omega⟩
  have HWS : Hid (Word (p1 + q1)) := Lib.hid ⟨by omega, by omega⟩
  clear hs hf he hnil hl hh
  have HV := Lib.hid hv
  have HNO := Lib.hid hno
  clear hv hno
  go_enter Try.func8, Try.ntmps8
  go_wp2_with fail
  (with_reducible refine (QueueKnown_any _).mono ?_)
  rintro e w1 ⟨rfl, hx1⟩
  have z1 := hx1.size
  try simp at z1
  replace HS := Lib.hid (HS.out.ext (Ext.trans (by repeat (first | with_reducible exact Ext.refl _ | with_reducible refine Ext.drew ?_ | with_reducible refine Ext.drewN ?_ _ | with_reducible refine Ext.alloc ?_ _ | with_reducible refine Ext.setCell ?_ (by first | omega | (simp; done) | (simp; omega)) _)) hx1))
  have X1 : Hid (Ext w w1) := Lib.hid (Ext.trans (by repeat (first | with_reducible exact Ext.refl w | with_reducible refine Ext.drew ?_ | with_reducible refine Ext.drewN ?_ _ | with_reducible refine Ext.alloc ?_ _ | with_reducible refine Ext.setCell ?_ (by first | omega | (simp; done) | (simp; omega)) _)) hx1)
  clear hx1 z1
  go_wp2_with fail
  (with_reducible refine (qcheck_ev A n c l 0 e2 _ (HS.out.ext (by repeat (first | with_reducible exact Ext.refl _ | with_reducible refine Ext.drew ?_ | with_reducible refine Ext.drewN ?_ _ | with_reducible refine Ext.alloc ?_ _ | with_reducible refine Ext.setCell ?_ (by first | omega | (simp; done) | (simp; omega)) _))) HF.out HE.out).mono ?_)
  rintro e w2 ⟨rfl, hx2⟩
  have z2 := hx2.size
  try simp at z2
  replace HS := Lib.hid (HS.out.ext (Ext.trans (by repeat (first | with_reducible exact Ext.refl _ | with_reducible refine Ext.drew ?_ | with_reducible refine Ext.drewN ?_ _ | with_reducible refine Ext.alloc ?_ _ | with_reducible refine Ext.setCell ?_ (by first | omega | (simp; done) | (simp; omega)) _)) hx2))
  have X2 : Hid (Ext w w2) := Lib.hid (Ext.trans (by repeat (first | with_reducible exact X1.out | with_reducible refine Ext.drew ?_ | with_reducible refine Ext.drewN ?_ _ | with_reducible refine Ext.alloc ?_ _ | with_reducible refine Ext.setCell ?_ (by first | omega | (simp; done) | (simp; omega)) _)) hx2)
  clear X1 hx2 z2
  go_wp2_with fail
  (with_reducible refine (qcut_en A n c l [] [] v h p1 0 3 0 0 _ (HS.out.ext (by repeat (first | with_reducible exact Ext.refl _ | with_reducible refine Ext.drew ?_ | with_reducible refine Ext.drewN ?_ _ | with_reducible refine Ext.alloc ?_ _ | with_reducible refine Ext.setCell ?_ (by first | omega | (simp; done) | (simp; omega)) _))) (by omega) HF.out HN.out HH.out HWP.out HV.out rfl rfl).mono ?_)
  rintro e w3 ⟨A2, c2, A3, c3, rfl, _, hx3⟩
  have z3 := hx3.size
  try simp at z3
  replace HS := Lib.hid (HS.out.ext (Ext.trans (by repeat (first | with_reducible exact Ext.refl _ | with_reducible refine Ext.drew ?_ | with_reducible refine Ext.drewN ?_ _ | with_reducible refine Ext.alloc ?_ _ | with_reducible refine Ext.setCell ?_ (by first | omega | (simp; done) | (simp; omega)) _)) hx3))
  have X3 : Hid (Ext w w3) := Lib.hid (Ext.trans (by repeat (first | with_reducible exact X2.out | with_reducible refine Ext.drew ?_ | with_reducible refine Ext.drewN ?_ _ | with_reducible refine Ext.alloc ?_ _ | with_reducible refine Ext.setCell ?_ (by first | omega | (simp; done) | (simp; omega)) _)) hx3)
  clear X2 hx3 z3
  by_cases q2 : v < 0
  · have d2 : decide (v < 0) = true := decide_eq_true q2
    have Q2 := Lib.hid q2
    clear q2
    go_wp2_with fail
    go_ret
    exact ⟨rfl, (by repeat (first | with_reducible exact X3.out | with_reducible refine Ext.drew ?_ | with_reducible refine Ext.drewN ?_ _ | with_reducible refine Ext.alloc ?_ _ | with_reducible refine Ext.setCell ?_ (by first | omega | (simp; done) | (simp; omega)) _))⟩
  · have d2 : decide (v < 0) = false := decide_eq_false q2
    have Q2 := Lib.hid q2
    clear q2
    by_cases q3 : 32 ≤ v
    · have d3 : decide (32 ≤ v) = true := decide_eq_true q3
      have Q3 := Lib.hid q3
      clear q3
      go_wp2_with fail
      go_ret
      exact ⟨rfl, (by repeat (first | with_reducible exact X3.out | with_reducible refine Ext.drew ?_ | with_reducible refine Ext.drewN ?_ _ | with_reducible refine Ext.alloc ?_ _ | with_reducible refine Ext.setCell ?_ (by first | omega | (simp; done) | (simp; omega)) _))⟩
    · have d3 : decide (32 ≤ v) = false := decide_eq_false q3
      have Q3 := Lib.hid q3
      clear q3
      by_cases q5 : h < 1
      · have d5 : decide (h < 1) = true := decide_eq_true q5
        have Q5 := Lib.hid q5
        clear q5
        go_wp2_with fail
        go_ret
        exact ⟨rfl, (by repeat (first | with_reducible exact X3.out | with_reducible refine Ext.drew ?_ | with_reducible refine Ext.drewN ?_ _ | with_reducible refine Ext.alloc ?_ _ | with_reducible refine Ext.setCell ?_ (by first | omega | (simp; done) | (simp; omega)) _))⟩
      · have d5 : decide (h < 1) = false := decide_eq_false q5
        have Q5 := Lib.hid q5
        clear q5
        have d6 : decide (4294967296 < h) = true := decide_eq_true (by have := HNO.out; have := Q2.out; have := Q3.out; have := Q5.out; omega)
        go_wp2_with fail
        go_ret
        exact ⟨rfl, (by repeat (first | with_reducible exact X3.out | with_reducible refine Ext.drew ?_ | with_reducible refine Ext.drewN ?_ _ | with_reducible refine Ext.alloc ?_ _ | with_reducible refine Ext.setCell ?_ (by first | omega | (simp; done) | (simp; omega)) _))⟩
set_option maxRecDepth 100000 in
set_option maxHeartbeats 4000000 in
theorem QueueTakes_main (A : Option Addr) (n c : Nat) (l : List (Int × Int × Int × Int × Int × Int × Int × Int)) (v h p q e1 e2 : Int) (w : World) (hs : Sl w 8 A n c (l.flatMap entC)) (hf : ∀ x ∈ l, FitsQ x) (he : (e1, e2) = chkQ l) (hnil : A = none → c = 0) (h0 : e1 = 0) (hl : n ≤ 40) (hh : h ≤ 9223372036854775807) (p1 q1 : Int) (hp : p % 1000000001 = p1) (hq : q % (1000000000 - p1 + 1) = q1) (hpn : 0 ≤ p) (hqn : 0 ≤ q) (hp0 : 0 ≤ p1) (hp1 : p1 ≤ 1000000000) (hq0 : 0 ≤ q1) (hq1 : p1 + q1 ≤ 1000000000) (nS : Nat) (R P2 T2 : List (Int × Int × Int × Int × Int × Int × Int × Int)) (S S2 S3 : List (Int × Int)) (U U2 U3 : Int) (hv : (R, S, U, 0) = cutV l v h p1) (hv2 : (P2, S2, U2, 0) = cutV R v h q1) (hv3 : (T2, S3, U3, 0) = cutV l v h (p1 + q1))
    (hRl : R.length = n) (hSl : S.length = nS) (hPl : P2.length = n) (hTl : T2.length = n) (hll : l.length = n) (hRf : ∀ x ∈ R, FitsQ x)
    (hR : ∀ (k : Nat) x, l[k]? = some x → R[k]? = some (cutF v h p1 x)) (hSS : ∀ (k : Nat) x, k < n → l[k]? = some x → bkE x v h = true → S[(cutS l v h p1 k).length]? = some ((k : Int), prt (baE x) p1))
    (hSn : (cutS l v h p1 n).length = nS) (hUn : cutA l v h p1 n = U) (hPT : ∀ (k : Nat) y z, P2[k]? = some y → T2[k]? = some z → baE z ≤ baE y) (htot : totB l ≤ 4611686018427387904) :
    Calls Try.prog 8 #[.slice A n c, .int .i64 v, .int .i64 h, .int .u64 p, .int .u64 q] w fun r w' => r = .returned (.bool true) ∧ Ext w w' := by
  subst h0
  have hns := hs.small
  have HS := Lib.hid hs
  have HF := Lib.hid hf
  have HE := Lib.hid he
  have hMd : ¬ (40 : Int) < (n : Int) := by omega
  have hpt : p.tmod 1000000001 = p1 := by rw [Int.tmod_eq_emod_of_nonneg hpn]; exact hp
  have hqt : q.tmod (1000000000 - p1 + 1) = q1 := by rw [Int.tmod_eq_emod_of_nonneg hqn]; exact hq
  have hz9 : ¬ 1000000000 - p1 + 1 = 0 := by omega
  have hz8 : (1000000000 - p1 + 1 == 0) = false := by simpa using hz9
  clear hpn hqn
  have HN := Lib.hid hnil
  have HH := Lib.hid hh
  have HWP : Hid (Word p1) := Lib.hid ⟨hp0, by omega⟩
  have HWQ : Hid (Word q1) := Lib.hid ⟨hq0, by omega⟩
  have HWS : Hid (Word (p1 + q1)) := Lib.hid ⟨by omega, by omega⟩
  clear hs hf he hnil hl hh
  have HS0 := Lib.hid HS.out
  have HV := Lib.hid hv
  have HV2 := Lib.hid hv2
  have HV3 := Lib.hid hv3
  have HRl := Lib.hid hRl
  have HSl := Lib.hid hSl
  have HPl := Lib.hid hPl
  have HTl := Lib.hid hTl
  have HLL := Lib.hid hll
  have HRf := Lib.hid hRf
  have HR := Lib.hid hR
  have HSS := Lib.hid hSS
  have HSU := Lib.hid (And.intro hSn hUn)
  have HPT := Lib.hid hPT
  have HTOT := Lib.hid htot
  have z1 := shaveC_same
  have z2 := shaveC_eqg
  have z3 := entC_same
  have z4 := entC_eqg
  clear hv hv2 hv3 hRl hSl hPl hTl hll hRf hR hSS hSn hUn hPT htot
  go_enter Try.func8, Try.ntmps8
  go_wp2_with fail
  (with_reducible refine (QueueKnown_any _).mono ?_)
  rintro e w1 ⟨rfl, hx1⟩
  have z1 := hx1.size
  try simp at z1
  replace HS := Lib.hid (HS.out.ext (Ext.trans (by repeat (first | with_reducible exact Ext.refl _ | with_reducible refine Ext.drew ?_ | with_reducible refine Ext.drewN ?_ _ | with_reducible refine Ext.alloc ?_ _ | with_reducible refine Ext.setCell ?_ (by first | omega | (simp; done) | (simp; omega)) _)) hx1))
  have X1 : Hid (Ext w w1) := Lib.hid (Ext.trans (by repeat (first | with_reducible exact Ext.refl w | with_reducible refine Ext.drew ?_ | with_reducible refine Ext.drewN ?_ _ | with_reducible refine Ext.alloc ?_ _ | with_reducible refine Ext.setCell ?_ (by first | omega | (simp; done) | (simp; omega)) _)) hx1)
  clear hx1 z1
  go_wp2_with fail
  (with_reducible refine (qcheck_ev A n c l 0 e2 _ (HS.out.ext (by repeat (first | with_reducible exact Ext.refl _ | with_reducible refine Ext.drew ?_ | with_reducible refine Ext.drewN ?_ _ | with_reducible refine Ext.alloc ?_ _ | with_reducible refine Ext.setCell ?_ (by first | omega | (simp; done) | (simp; omega)) _))) HF.out HE.out).mono ?_)
  rintro e w2 ⟨rfl, hx2⟩
  have z2 := hx2.size
  try simp at z2
  replace HS := Lib.hid (HS.out.ext (Ext.trans (by repeat (first | with_reducible exact Ext.refl _ | with_reducible refine Ext.drew ?_ | with_reducible refine Ext.drewN ?_ _ | with_reducible refine Ext.alloc ?_ _ | with_reducible refine Ext.setCell ?_ (by first | omega | (simp; done) | (simp; omega)) _)) hx2))
  have X2 : Hid (Ext w w2) := Lib.hid (Ext.trans (by repeat (first | with_reducible exact X1.out | with_reducible refine Ext.drew ?_ | with_reducible refine Ext.drewN ?_ _ | with_reducible refine Ext.alloc ?_ _ | with_reducible refine Ext.setCell ?_ (by first | omega | (simp; done) | (simp; omega)) _)) hx2)
  clear X1 hx2 z2
  go_wp2_with fail
  (with_reducible refine ((qcut_evn A n c l R S v h p1 U 0 n nS _ (HS.out.ext (by repeat (first | with_reducible exact Ext.refl _ | with_reducible refine Ext.drew ?_ | with_reducible refine Ext.drewN ?_ _ | with_reducible refine Ext.alloc ?_ _ | with_reducible refine Ext.setCell ?_ (by first | omega | (simp; done) | (simp; omega)) _))) (by omega) HF.out HN.out HH.out HWP.out HV.out HRl.out HSl.out)).mono ?_)
  rintro e w3 ⟨A2, c2, A3, c3, rfl, hn2, _, hO2, hO3, _, hx3⟩
  have z3 := hx3.size
  try simp at z3
  replace HS := Lib.hid (HS.out.ext (Ext.trans (by repeat (first | with_reducible exact Ext.refl _ | with_reducible refine Ext.drew ?_ | with_reducible refine Ext.drewN ?_ _ | with_reducible refine Ext.alloc ?_ _ | with_reducible refine Ext.setCell ?_ (by first | omega | (simp; done) | (simp; omega)) _)) hx3))
  have X3 : Hid (Ext w w3) := Lib.hid (Ext.trans (by repeat (first | with_reducible exact X2.out | with_reducible refine Ext.drew ?_ | with_reducible refine Ext.drewN ?_ _ | with_reducible refine Ext.alloc ?_ _ | with_reducible refine Ext.setCell ?_ (by first | omega | (simp; done) | (simp; omega)) _)) hx3)
  have HA := Lib.hid (OwnEnt.sl hO2)
  have HB := Lib.hid (OwnShave.sl hO3)
  clear X2 hx3 z3
  have HN2 := Lib.hid hn2
  clear hO2 hO3 hn2
  have HX2 : Hid (Ext w _) := Lib.hid (by repeat (first | with_reducible exact X3.out | with_reducible refine Ext.drew ?_ | with_reducible refine Ext.drewN ?_ _ | with_reducible refine Ext.alloc ?_ _ | with_reducible refine Ext.setCell ?_ (by first | omega | (simp; done) | (simp; omega)) _))
  have HL0 : Hid (Sl w3 8 A n c (l.flatMap entC)) := Lib.hid (HS.out.ext (by repeat (first | with_reducible exact Ext.refl _ | with_reducible refine Ext.drew ?_ | with_reducible refine Ext.drewN ?_ _ | with_reducible refine Ext.alloc ?_ _ | with_reducible refine Ext.setCell ?_ (by first | omega | (simp; done) | (simp; omega)) _)))
  have HA0 : Hid (Sl w3 8 A2 n c2 (R.flatMap entC)) := Lib.hid (HA.out.ext (by repeat (first | with_reducible exact Ext.refl _ | with_reducible refine Ext.drew ?_ | with_reducible refine Ext.drewN ?_ _ | with_reducible refine Ext.alloc ?_ _ | with_reducible refine Ext.setCell ?_ (by first | omega | (simp; done) | (simp; omega)) _)))
  have HB0 : Hid (Sl w3 2 A3 nS c3 (S.flatMap shaveC)) := Lib.hid (HB.out.ext (by repeat (first | with_reducible exact Ext.refl _ | with_reducible refine Ext.drew ?_ | with_reducible refine Ext.drewN ?_ _ | with_reducible refine Ext.alloc ?_ _ | with_reducible refine Ext.setCell ?_ (by first | omega | (simp; done) | (simp; omega)) _)))
  clear HS HA HB X3
  go_wp2_with fail
  go_loopg [18, 19, 20] n (fun gh s18 s19 i wx => gh ≤ n ∧ i = .int .i64 ((n - gh : Nat) : Int) ∧ s18 = .int .i64 ((cutS l v h p1 (n - gh)).length : Int) ∧ s19 = .int .u64 (cutA l v h p1 (n - gh)) ∧ Hid (Sl wx 8 A n c (l.flatMap entC)) ∧ Hid (Sl wx 8 A2 n c2 (R.flatMap entC)) ∧ Hid (Sl wx 2 A3 nS c3 (S.flatMap shaveC)) ∧ Hid (Ext w wx))
  case atStart => exact ⟨Nat.le_refl _, by simp, by rw [Nat.sub_self]; rfl, by rw [Nat.sub_self]; rfl, HL0, HA0, HB0, HX2⟩
  case round =>
    obtain ⟨hg, hi, h18, h19, HS, HA, HB, XR⟩ := hrel
    obtain ⟨k, hk⟩ : ∃ k, k = n - gk := ⟨_, rfl⟩
    rw [← hk] at hi h18 h19
    subst hi
    clear HX2 HL0 HA0 HB0
    by_cases hz : gk = 0
    · have hkn : ¬ (k : Int) < (n : Int) := by omega
      obtain rfl : k = n := by omega
      rw [HSU.out.1] at h18
      rw [HSU.out.2] at h19
      subst h18; subst h19
      clear hg hz hk
      go_wp2_with fail
      (with_reducible refine (qcut_en A2 k c2 R P2 S2 v h q1 U2 0 k S2.length _ (HA.out.ext (by repeat (first | with_reducible exact Ext.refl _ | with_reducible refine Ext.drew ?_ | with_reducible refine Ext.drewN ?_ _ | with_reducible refine Ext.alloc ?_ _ | with_reducible refine Ext.setCell ?_ (by first | omega | (simp; done) | (simp; omega)) _))) (by omega) HRf.out HN2.out HH.out HWQ.out HV2.out HPl.out rfl).mono ?_)
      rintro e w41 ⟨A4, c4, A5, c5, rfl, hO4, hx41⟩
      have z41 := hx41.size
      try simp at z41
      replace HS := Lib.hid (HS.out.ext (Ext.trans (by repeat (first | with_reducible exact Ext.refl _ | with_reducible refine Ext.drew ?_ | with_reducible refine Ext.drewN ?_ _ | with_reducible refine Ext.alloc ?_ _ | with_reducible refine Ext.setCell ?_ (by first | omega | (simp; done) | (simp; omega)) _)) hx41))
      replace HA := Lib.hid (HA.out.ext (Ext.trans (by repeat (first | with_reducible exact Ext.refl _ | with_reducible refine Ext.drew ?_ | with_reducible refine Ext.drewN ?_ _ | with_reducible refine Ext.alloc ?_ _ | with_reducible refine Ext.setCell ?_ (by first | omega | (simp; done) | (simp; omega)) _)) hx41))
      have X41 : Hid (Ext w w41) := Lib.hid (Ext.trans (by repeat (first | with_reducible exact XR.out | with_reducible refine Ext.drew ?_ | with_reducible refine Ext.drewN ?_ _ | with_reducible refine Ext.alloc ?_ _ | with_reducible refine Ext.setCell ?_ (by first | omega | (simp; done) | (simp; omega)) _)) hx41)
      have HC := Lib.hid (OwnEnt.sl hO4)
      clear XR hx41 z41
      clear hO4
      go_wp2_with fail
      (with_reducible refine (qcut_en A k c l T2 S3 v h (p1 + q1) U3 0 k S3.length _ (HS.out.ext (by repeat (first | with_reducible exact Ext.refl _ | with_reducible refine Ext.drew ?_ | with_reducible refine Ext.drewN ?_ _ | with_reducible refine Ext.alloc ?_ _ | with_reducible refine Ext.setCell ?_ (by first | omega | (simp; done) | (simp; omega)) _))) (by omega) HF.out HN.out HH.out HWS.out HV3.out HTl.out rfl).mono ?_)
      rintro e w42 ⟨A6, c6, A7, c7, rfl, hO6, hx42⟩
      have z42 := hx42.size
      try simp at z42
      replace HS := Lib.hid (HS.out.ext (Ext.trans (by repeat (first | with_reducible exact Ext.refl _ | with_reducible refine Ext.drew ?_ | with_reducible refine Ext.drewN ?_ _ | with_reducible refine Ext.alloc ?_ _ | with_reducible refine Ext.setCell ?_ (by first | omega | (simp; done) | (simp; omega)) _)) hx42))
      replace HA := Lib.hid (HA.out.ext (Ext.trans (by repeat (first | with_reducible exact Ext.refl _ | with_reducible refine Ext.drew ?_ | with_reducible refine Ext.drewN ?_ _ | with_reducible refine Ext.alloc ?_ _ | with_reducible refine Ext.setCell ?_ (by first | omega | (simp; done) | (simp; omega)) _)) hx42))
      replace HC := Lib.hid (HC.out.ext (Ext.trans (by repeat (first | with_reducible exact Ext.refl _ | with_reducible refine Ext.drew ?_ | with_reducible refine Ext.drewN ?_ _ | with_reducible refine Ext.alloc ?_ _ | with_reducible refine Ext.setCell ?_ (by first | omega | (simp; done) | (simp; omega)) _)) hx42))
      have X42 : Hid (Ext w w42) := Lib.hid (Ext.trans (by repeat (first | with_reducible exact X41.out | with_reducible refine Ext.drew ?_ | with_reducible refine Ext.drewN ?_ _ | with_reducible refine Ext.alloc ?_ _ | with_reducible refine Ext.setCell ?_ (by first | omega | (simp; done) | (simp; omega)) _)) hx42)
      have HD := Lib.hid (OwnEnt.sl hO6)
      clear X41 hx42 z42
      clear hO6
      have HX3 : Hid (Ext w _) := Lib.hid (by repeat (first | with_reducible exact X42.out | with_reducible refine Ext.drew ?_ | with_reducible refine Ext.drewN ?_ _ | with_reducible refine Ext.alloc ?_ _ | with_reducible refine Ext.setCell ?_ (by first | omega | (simp; done) | (simp; omega)) _))
      have HC0 : Hid (Sl w42 8 A4 k c4 (P2.flatMap entC)) := Lib.hid (HC.out.ext (by repeat (first | with_reducible exact Ext.refl _ | with_reducible refine Ext.drew ?_ | with_reducible refine Ext.drewN ?_ _ | with_reducible refine Ext.alloc ?_ _ | with_reducible refine Ext.setCell ?_ (by first | omega | (simp; done) | (simp; omega)) _)))
      have HD0 : Hid (Sl w42 8 A6 k c6 (T2.flatMap entC)) := Lib.hid (HD.out.ext (by repeat (first | with_reducible exact Ext.refl _ | with_reducible refine Ext.drew ?_ | with_reducible refine Ext.drewN ?_ _ | with_reducible refine Ext.alloc ?_ _ | with_reducible refine Ext.setCell ?_ (by first | omega | (simp; done) | (simp; omega)) _)))
      clear HS HA HC HD X42
      go_wp2_with fail
      go_loopg [31] k (fun gh i wx => gh ≤ k ∧ i = .int .i64 ((k - gh : Nat) : Int) ∧ Hid (Sl wx 8 A4 k c4 (P2.flatMap entC)) ∧ Hid (Sl wx 8 A6 k c6 (T2.flatMap entC)) ∧ Hid (Ext w wx))
      case atStart => exact ⟨Nat.le_refl _, by simp, HC0, HD0, HX3⟩
      case round =>
        obtain ⟨hg, hi, HC, HD, XR⟩ := hrel
        obtain ⟨j, hj⟩ : ∃ j, j = k - gk := ⟨_, rfl⟩
        rw [← hj] at hi
        subst hi
        clear HX3 HC0 HD0
        by_cases hz : gk = 0
        · have hjn : ¬ (j : Int) < (k : Int) := by omega
          clear hg hz hj
          go_wp2_with fail
          go_ret
          exact ⟨rfl, XR.out⟩
        · have hjn : (j : Int) < (k : Int) := by omega
          obtain ⟨yw, hl_y⟩ : ∃ x, P2[j]? = some x := ⟨_, List.getElem?_eq_getElem (show j < P2.length from by have := HPl.out; omega)⟩
          obtain ⟨zw, hl_z⟩ : ∃ x, T2[j]? = some x := ⟨_, List.getElem?_eq_getElem (show j < T2.length from by have := HTl.out; omega)⟩
          obtain ⟨b1, o1, rfl, hb1, hc_y⟩ := HC.out.rec_ entC_len (show 0 < k from by omega)
          obtain ⟨b2, o2, rfl, hb2, hc_z⟩ := HD.out.rec_ entC_len (show 0 < k from by omega)
          have hle := HPT.out j yw zw hl_y hl_z
          have y_7 : wr.cell? ⟨b1, o1 + (j * 8 + 7), none⟩ = some (.int .u64 (baE yw)) := hc_y j _ hl_y 7 _ rfl
          have z_7 : wr.cell? ⟨b2, o2 + (j * 8 + 7), none⟩ = some (.int .u64 (baE zw)) := hc_z j _ hl_z 7 _ rfl
          rw [← Nat.add_assoc] at y_7 z_7
          generalize baE yw = yb at *
          generalize baE zw = zb at *
          have hlt : decide (yb < zb) = false := decide_eq_false (by omega)
          have HK := Lib.hid (And.intro hj (And.intro hg hz))
          clear hj hg hz hl_y hl_z hc_y hc_z hle
          go_wp2_with fail
          refine wp_region_held_drew (S := fun w' => w'.cell? ⟨b1, o1 + j * 8 + 7, none⟩ = some (.int .u64 yb) ∧ w'.cell? ⟨b2, o2 + j * 8 + 7, none⟩ = some (.int .u64 zb)) (by kernel_rfl) (by first | exact ⟨y_7, z_7⟩ | (simp [go_sem, World.cell?_alloc_past, y_7, z_7]; done)) (fun hHeld => ?_)
          (refine' take_in 0 rfl (by kernel_rfl) (by kernel_rfl) (by kernel_rfl) (fun _ _ _ h => h) (by rfl) (by assumption) ?_ ?_; rotate_left; focus (intro w hSw; (try dsimp only at hSw); go_simp; try with_reducible rfl)); try simp only [Act.put, List.setIfInBounds_toArray, List.set_cons_zero, List.set_cons_succ]
          (refine' take_in 1 rfl (by kernel_rfl) (by kernel_rfl) (by kernel_rfl) (fun _ _ _ h => h) (by rfl) (by assumption) ?_ ?_; rotate_left; focus (intro w hSw; (try dsimp only at hSw); go_simp; try with_reducible rfl)); try simp only [Act.put, List.setIfInBounds_toArray, List.set_cons_zero, List.set_cons_succ]
          (refine' take_in 2 rfl (by kernel_rfl) (by kernel_rfl) (by kernel_rfl) (fun _ _ _ h => h) (by rfl) (by assumption) ?_ ?_; rotate_left; focus (intro w hSw; (try dsimp only at hSw); go_simp; try with_reducible rfl)); try simp only [Act.put, List.setIfInBounds_toArray, List.set_cons_zero, List.set_cons_succ]
          (refine' take_in 3 rfl (by kernel_rfl) (by kernel_rfl) (by kernel_rfl) (fun _ _ _ h => h) (by rfl) (by assumption) ?_ ?_; rotate_left; focus (intro w hSw; (try dsimp only at hSw); go_simp; try with_reducible rfl)); try simp only [Act.put, List.setIfInBounds_toArray, List.set_cons_zero, List.set_cons_succ]
          (refine' take_in 4 rfl (by kernel_rfl) (by kernel_rfl) (by kernel_rfl) (fun _ _ _ h => h) (by rfl) (by assumption) ?_ ?_; rotate_left; focus (intro w hSw; (try dsimp only at hSw); go_simp; try with_reducible rfl)); try simp only [Act.put, List.setIfInBounds_toArray, List.set_cons_zero, List.set_cons_succ]
          (refine' take_in 5 rfl (by kernel_rfl) (by kernel_rfl) (by kernel_rfl) (fun _ _ _ h => h) (by rfl) (by assumption) ?_ ?_; rotate_left; focus (intro w hSw; (try dsimp only at hSw); go_simp; try with_reducible rfl)); try simp only [Act.put, List.setIfInBounds_toArray, List.set_cons_zero, List.set_cons_succ]
          (refine' take_in 6 rfl (by kernel_rfl) (by kernel_rfl) (by kernel_rfl) (fun _ _ _ h => h) (by rfl) (by assumption) ?_ ?_; rotate_left; focus (intro w hSw; (try dsimp only at hSw); go_simp; try with_reducible rfl)); try simp only [Act.put, List.setIfInBounds_toArray, List.set_cons_zero, List.set_cons_succ]
          (refine' take_in 7 rfl (by kernel_rfl) (by kernel_rfl) (by kernel_rfl) (fun _ _ _ h => h) (by rfl) (by assumption) ?_ ?_; rotate_left; focus (intro w hSw; (try dsimp only at hSw); go_simp; try with_reducible rfl)); try simp only [Act.put, List.setIfInBounds_toArray, List.set_cons_zero, List.set_cons_succ]
          (refine' take_in 8 rfl (by kernel_rfl) (by kernel_rfl) (by kernel_rfl) (fun _ _ _ h => h) (by rfl) (by assumption) ?_ ?_; rotate_left; focus (intro w hSw; (try dsimp only at hSw); go_simp; try with_reducible rfl)); try simp only [Act.put, List.setIfInBounds_toArray, List.set_cons_zero, List.set_cons_succ]
          (refine' take_in 9 rfl (by kernel_rfl) (by kernel_rfl) (by kernel_rfl) (fun _ _ _ h => h) (by rfl) (by assumption) ?_ ?_; rotate_left; focus (intro w hSw; (try dsimp only at hSw); go_simp; try with_reducible rfl)); try simp only [Act.put, List.setIfInBounds_toArray, List.set_cons_zero, List.set_cons_succ]
          (refine' take_in 10 rfl (by kernel_rfl) (by kernel_rfl) (by kernel_rfl) (fun _ _ _ h => h) (by rfl) (by assumption) ?_ ?_; rotate_left; focus (intro w hSw; (try dsimp only at hSw); go_simp; try with_reducible rfl)); try simp only [Act.put, List.setIfInBounds_toArray, List.set_cons_zero, List.set_cons_succ]
          refine wpAnyH_done (by kernel_rfl) ?_ _
          go_wp2_with fail
          go_roundg (gk - 1)
          case measure => have := HK.out; omega
          case rel => exact ⟨by have := HK.out; omega, num_eq (by have := HK.out; omega), Lib.hid (HC.out.ext (by repeat (first | with_reducible exact Ext.refl _ | with_reducible refine Ext.drew ?_ | with_reducible refine Ext.drewN ?_ _ | with_reducible refine Ext.alloc ?_ _ | with_reducible refine Ext.setCell ?_ (by first | omega | (simp; done) | (simp; omega)) _))), Lib.hid (HD.out.ext (by repeat (first | with_reducible exact Ext.refl _ | with_reducible refine Ext.drew ?_ | with_reducible refine Ext.drewN ?_ _ | with_reducible refine Ext.alloc ?_ _ | with_reducible refine Ext.setCell ?_ (by first | omega | (simp; done) | (simp; omega)) _))), Lib.hid (by repeat (first | with_reducible exact XR.out | with_reducible refine Ext.drew ?_ | with_reducible refine Ext.drewN ?_ _ | with_reducible refine Ext.alloc ?_ _ | with_reducible refine Ext.setCell ?_ (by first | omega | (simp; done) | (simp; omega)) _))⟩
    · have hkn : (k : Int) < (n : Int) := by omega
      have hkn2 : k < n := by omega
      have hkn3 : decide ((n : Int) ≤ (k : Int)) = false := decide_eq_false (by omega)
      have hkn4 : decide (n ≤ k) = false := decide_eq_false (by omega)
      obtain ⟨xw, hl_x⟩ : ∃ x, l[k]? = some x := ⟨_, List.getElem?_eq_getElem (show k < l.length from by have := HLL.out; omega)⟩
      obtain ⟨b1, o1, rfl, hb1, hc_x⟩ := HS.out.rec_ entC_len (show 0 < n from by omega)
      obtain ⟨b2, o2, rfl, hb2, hc_y⟩ := HA.out.rec_ entC_len (show 0 < n from by omega)
      have hy0 := HR.out k xw hl_x
      have hba := (HF.out _ (List.mem_of_getElem? hl_x)).ba
      have hss := HSS.out k xw hkn2 hl_x
      have hbd := (cutA_bound HF.out v h hp0 hp1 (k + 1)).2
      have hb0 := (cutA_bound HF.out v h hp0 hp1 k).1
      have htk := totB_le HF.out (k + 1)
      have htt := HTOT.out
      have x_0 := hc_x k xw hl_x 0 _ rfl
      have x_1 := hc_x k xw hl_x 1 _ rfl
      have x_2 := hc_x k xw hl_x 2 _ rfl
      have x_3 := hc_x k xw hl_x 3 _ rfl
      have x_4 := hc_x k xw hl_x 4 _ rfl
      have x_5 := hc_x k xw hl_x 5 _ rfl
      have x_6 := hc_x k xw hl_x 6 _ rfl
      have x_7 := hc_x k xw hl_x 7 _ rfl
      obtain ⟨CA, hCA⟩ : ∃ CA, CA = cutA l v h p1 k := ⟨_, rfl⟩
      obtain ⟨m, hm⟩ : ∃ m, m = (cutS l v h p1 k).length := ⟨_, rfl⟩
      have hml : m ≤ 40 := by rw [hm]; have := cutS_len l v h p1 k; omega
      rw [← hm] at h18 hss
      rw [← hCA] at h19 hb0
      subst h18; subst h19
      obtain ⟨u1, u2, _⟩ := prt_bounds hba.1 hp0 hp1
      have pa := pa_prt hba hp0 hp1
      obtain ⟨xo, xv, xs, xp, xf, xc, xi, xb⟩ := xw
      obtain ⟨P, hP⟩ : ∃ P, P = prt (baE (xo, xv, xs, xp, xf, xc, xi, xb)) p1 := ⟨_, rfl⟩
      rw [← hP] at u1 u2 hss
      change P ≤ xb at u2
      have b0 : 0 ≤ xb := hba.1
      have b1' : xb < 18446744073709551616 := hba.2
      have CB := Lib.hid (fun w => tBacked_any xv xs xp xf v h xc w)
      have CP := Lib.hid (fun w => fPart_any xb p1 hba ⟨hp0, by omega⟩ w)
      rw [show paN xb p1 = P from by rw [hP]; exact pa.1, show paE xb p1 = 0 from pa.2] at CP
      rw [show bkdB xv xs xp xf v h xc = bkE (xo, xv, xs, xp, xf, xc, xi, xb) v h from rfl] at CB
      have HK := Lib.hid (And.intro hk (And.intro hg hz))
      simp only at x_0 x_1 x_2 x_3 x_4 x_5 x_6 x_7
      rw [Nat.add_zero] at x_0
      rw [← Nat.add_assoc] at x_1 x_2 x_3 x_4 x_5 x_6 x_7
      cases e1 : bkE (xo, xv, xs, xp, xf, xc, xi, xb) v h
      · rw [e1] at CB
        obtain ⟨_, f2, f3⟩ := cut_f (p := p1) hl_x e1
        rw [f3, ← hCA] at hbd
        have HT : Hid ((cutS l v h p1 (k + 1)).length = m ∧ cutA l v h p1 (k + 1) = CA) := Lib.hid ⟨by rw [f2, ← hm], by rw [f3, ← hCA]⟩
        have hy1 : R[k]? = some (xo, xv, xs, xp, xf, xc, xi, xb) := by rw [hy0]; unfold cutF; rw [if_neg (by simp [e1])]
        have y_0 := hc_y k _ hy1 0 _ rfl
        have y_1 := hc_y k _ hy1 1 _ rfl
        have y_2 := hc_y k _ hy1 2 _ rfl
        have y_3 := hc_y k _ hy1 3 _ rfl
        have y_4 := hc_y k _ hy1 4 _ rfl
        have y_5 := hc_y k _ hy1 5 _ rfl
        have y_6 := hc_y k _ hy1 6 _ rfl
        have y_7 := hc_y k _ hy1 7 _ rfl
        simp only at y_0 y_1 y_2 y_3 y_4 y_5 y_6 y_7
        rw [Nat.add_zero] at y_0
        rw [← Nat.add_assoc] at y_1 y_2 y_3 y_4 y_5 y_6 y_7
        have cu2 : CA ≤ 4611686018427387904 := by omega
        clear hk hg hz hl_x hba pa hP hCA hm f2 f3 e1 hss hy0 hy1 hc_x hc_y hbd htk htt
        go_wp2_with fail
        refine wp_region_held_drew (S := fun w' => w'.cell? ⟨b1, o1 + k * 8 + 1, none⟩ = some (.int .i64 xv) ∧ w'.cell? ⟨b1, o1 + k * 8 + 2, none⟩ = some (.int .i64 xs) ∧ w'.cell? ⟨b1, o1 + k * 8 + 3, none⟩ = some (.int .i64 xp) ∧ w'.cell? ⟨b1, o1 + k * 8 + 4, none⟩ = some (.int .i64 xf) ∧ w'.cell? ⟨b1, o1 + k * 8 + 5, none⟩ = some (.int .i64 xc)) (by kernel_rfl) (by first | exact ⟨x_1, x_2, x_3, x_4, x_5⟩ | (simp [go_sem, World.cell?_alloc_past, x_0, x_1, x_2, x_3, x_4, x_5, x_6, x_7, y_0, y_1, y_2, y_3, y_4, y_5, y_6, y_7]; done)) (fun hHeld => ?_)
        (refine' take_in 0 rfl (by kernel_rfl) (by kernel_rfl) (by kernel_rfl) (fun _ _ _ h => h) (by rfl) (by assumption) ?_ ?_; rotate_left; focus (intro w hSw; (try dsimp only at hSw); go_simp; try with_reducible rfl)); try simp only [Act.put, List.setIfInBounds_toArray, List.set_cons_zero, List.set_cons_succ]
        (refine' take_in 1 rfl (by kernel_rfl) (by kernel_rfl) (by kernel_rfl) (fun _ _ _ h => h) (by rfl) (by assumption) ?_ ?_; rotate_left; focus (intro w hSw; (try dsimp only at hSw); go_simp; try with_reducible rfl)); try simp only [Act.put, List.setIfInBounds_toArray, List.set_cons_zero, List.set_cons_succ]
        (refine' take_in 2 rfl (by kernel_rfl) (by kernel_rfl) (by kernel_rfl) (fun _ _ _ h => h) (by rfl) (by assumption) ?_ ?_; rotate_left; focus (intro w hSw; (try dsimp only at hSw); go_simp; try with_reducible rfl)); try simp only [Act.put, List.setIfInBounds_toArray, List.set_cons_zero, List.set_cons_succ]
        (refine' take_in 3 rfl (by kernel_rfl) (by kernel_rfl) (by kernel_rfl) (fun _ _ _ h => h) (by rfl) (by assumption) ?_ ?_; rotate_left; focus (intro w hSw; (try dsimp only at hSw); go_simp; try with_reducible rfl)); try simp only [Act.put, List.setIfInBounds_toArray, List.set_cons_zero, List.set_cons_succ]
        (refine' take_in 4 rfl (by kernel_rfl) (by kernel_rfl) (by kernel_rfl) (fun _ _ _ h => h) (by rfl) (by assumption) ?_ ?_; rotate_left; focus (intro w hSw; (try dsimp only at hSw); go_simp; try with_reducible rfl)); try simp only [Act.put, List.setIfInBounds_toArray, List.set_cons_zero, List.set_cons_succ]
        (refine' take_in 5 rfl (by kernel_rfl) (by kernel_rfl) (by kernel_rfl) (fun _ _ _ h => h) (by rfl) (by assumption) ?_ ?_; rotate_left; focus (intro w hSw; (try dsimp only at hSw); go_simp; try with_reducible rfl)); try simp only [Act.put, List.setIfInBounds_toArray, List.set_cons_zero, List.set_cons_succ]
        (refine' take_in 6 rfl (by kernel_rfl) (by kernel_rfl) (by kernel_rfl) (fun _ _ _ h => h) (by rfl) (by assumption) ?_ ?_; rotate_left; focus (intro w hSw; (try dsimp only at hSw); go_simp; try with_reducible rfl)); try simp only [Act.put, List.setIfInBounds_toArray, List.set_cons_zero, List.set_cons_succ]
        (refine' take_in 7 rfl (by kernel_rfl) (by kernel_rfl) (by kernel_rfl) (fun _ _ _ h => h) (by rfl) (by assumption) ?_ ?_; rotate_left; focus (intro w hSw; (try dsimp only at hSw); go_simp; try with_reducible rfl)); try simp only [Act.put, List.setIfInBounds_toArray, List.set_cons_zero, List.set_cons_succ]
        (refine' take_in 8 rfl (by kernel_rfl) (by kernel_rfl) (by kernel_rfl) (fun _ _ _ h => h) (by rfl) (by assumption) ?_ ?_; rotate_left; focus (intro w hSw; (try dsimp only at hSw); go_simp; try with_reducible rfl)); try simp only [Act.put, List.setIfInBounds_toArray, List.set_cons_zero, List.set_cons_succ]
        (refine' take_in 9 rfl (by kernel_rfl) (by kernel_rfl) (by kernel_rfl) (fun _ _ _ h => h) (by rfl) (by assumption) ?_ ?_; rotate_left; focus (intro w hSw; (try dsimp only at hSw); go_simp; try with_reducible rfl)); try simp only [Act.put, List.setIfInBounds_toArray, List.set_cons_zero, List.set_cons_succ]
        (refine' take_in 10 rfl (by kernel_rfl) (by kernel_rfl) (by kernel_rfl) (fun _ _ _ h => h) (by rfl) (by assumption) ?_ ?_; rotate_left; focus (intro w hSw; (try dsimp only at hSw); go_simp; try with_reducible rfl)); try simp only [Act.put, List.setIfInBounds_toArray, List.set_cons_zero, List.set_cons_succ]
        (refine' take_in 11 rfl (by kernel_rfl) (by kernel_rfl) (by kernel_rfl) (fun _ _ _ h => h) (by rfl) (by assumption) ?_ ?_; rotate_left; focus (intro w hSw; (try dsimp only at hSw); go_simp; try with_reducible rfl)); try simp only [Act.put, List.setIfInBounds_toArray, List.set_cons_zero, List.set_cons_succ]
        refine' next_in 12 rfl (by kernel_rfl) (by rfl) (fun K hK => ?_)
        go_simp
        (with_reducible refine (CB.out _).mono ?_)
        rintro e w11 ⟨rfl, hx11⟩
        replace x_0 : w11.cell? ⟨b1, o1 + k * 8, none⟩ = some (.int .i64 xo) := hx11.has (by first | exact x_0 | (simp [go_sem, World.cell?_alloc_past, x_0, x_1, x_2, x_3, x_4, x_5, x_6, x_7, y_0, y_1, y_2, y_3, y_4, y_5, y_6, y_7]; done))
        replace x_1 : w11.cell? ⟨b1, o1 + k * 8 + 1, none⟩ = some (.int .i64 xv) := hx11.has (by first | exact x_1 | (simp [go_sem, World.cell?_alloc_past, x_0, x_1, x_2, x_3, x_4, x_5, x_6, x_7, y_0, y_1, y_2, y_3, y_4, y_5, y_6, y_7]; done))
        replace x_2 : w11.cell? ⟨b1, o1 + k * 8 + 2, none⟩ = some (.int .i64 xs) := hx11.has (by first | exact x_2 | (simp [go_sem, World.cell?_alloc_past, x_0, x_1, x_2, x_3, x_4, x_5, x_6, x_7, y_0, y_1, y_2, y_3, y_4, y_5, y_6, y_7]; done))
        replace x_3 : w11.cell? ⟨b1, o1 + k * 8 + 3, none⟩ = some (.int .i64 xp) := hx11.has (by first | exact x_3 | (simp [go_sem, World.cell?_alloc_past, x_0, x_1, x_2, x_3, x_4, x_5, x_6, x_7, y_0, y_1, y_2, y_3, y_4, y_5, y_6, y_7]; done))
        replace x_4 : w11.cell? ⟨b1, o1 + k * 8 + 4, none⟩ = some (.int .i64 xf) := hx11.has (by first | exact x_4 | (simp [go_sem, World.cell?_alloc_past, x_0, x_1, x_2, x_3, x_4, x_5, x_6, x_7, y_0, y_1, y_2, y_3, y_4, y_5, y_6, y_7]; done))
        replace x_5 : w11.cell? ⟨b1, o1 + k * 8 + 5, none⟩ = some (.int .i64 xc) := hx11.has (by first | exact x_5 | (simp [go_sem, World.cell?_alloc_past, x_0, x_1, x_2, x_3, x_4, x_5, x_6, x_7, y_0, y_1, y_2, y_3, y_4, y_5, y_6, y_7]; done))
        replace x_6 : w11.cell? ⟨b1, o1 + k * 8 + 6, none⟩ = some (.int .u64 xi) := hx11.has (by first | exact x_6 | (simp [go_sem, World.cell?_alloc_past, x_0, x_1, x_2, x_3, x_4, x_5, x_6, x_7, y_0, y_1, y_2, y_3, y_4, y_5, y_6, y_7]; done))
        replace x_7 : w11.cell? ⟨b1, o1 + k * 8 + 7, none⟩ = some (.int .u64 xb) := hx11.has (by first | exact x_7 | (simp [go_sem, World.cell?_alloc_past, x_0, x_1, x_2, x_3, x_4, x_5, x_6, x_7, y_0, y_1, y_2, y_3, y_4, y_5, y_6, y_7]; done))
        replace y_0 : w11.cell? ⟨b2, o2 + k * 8, none⟩ = some (.int .i64 xo) := hx11.has (by first | exact y_0 | (simp [go_sem, World.cell?_alloc_past, x_0, x_1, x_2, x_3, x_4, x_5, x_6, x_7, y_0, y_1, y_2, y_3, y_4, y_5, y_6, y_7]; done))
        replace y_1 : w11.cell? ⟨b2, o2 + k * 8 + 1, none⟩ = some (.int .i64 xv) := hx11.has (by first | exact y_1 | (simp [go_sem, World.cell?_alloc_past, x_0, x_1, x_2, x_3, x_4, x_5, x_6, x_7, y_0, y_1, y_2, y_3, y_4, y_5, y_6, y_7]; done))
        replace y_2 : w11.cell? ⟨b2, o2 + k * 8 + 2, none⟩ = some (.int .i64 xs) := hx11.has (by first | exact y_2 | (simp [go_sem, World.cell?_alloc_past, x_0, x_1, x_2, x_3, x_4, x_5, x_6, x_7, y_0, y_1, y_2, y_3, y_4, y_5, y_6, y_7]; done))
        replace y_3 : w11.cell? ⟨b2, o2 + k * 8 + 3, none⟩ = some (.int .i64 xp) := hx11.has (by first | exact y_3 | (simp [go_sem, World.cell?_alloc_past, x_0, x_1, x_2, x_3, x_4, x_5, x_6, x_7, y_0, y_1, y_2, y_3, y_4, y_5, y_6, y_7]; done))
        replace y_4 : w11.cell? ⟨b2, o2 + k * 8 + 4, none⟩ = some (.int .i64 xf) := hx11.has (by first | exact y_4 | (simp [go_sem, World.cell?_alloc_past, x_0, x_1, x_2, x_3, x_4, x_5, x_6, x_7, y_0, y_1, y_2, y_3, y_4, y_5, y_6, y_7]; done))
        replace y_5 : w11.cell? ⟨b2, o2 + k * 8 + 5, none⟩ = some (.int .i64 xc) := hx11.has (by first | exact y_5 | (simp [go_sem, World.cell?_alloc_past, x_0, x_1, x_2, x_3, x_4, x_5, x_6, x_7, y_0, y_1, y_2, y_3, y_4, y_5, y_6, y_7]; done))
        replace y_6 : w11.cell? ⟨b2, o2 + k * 8 + 6, none⟩ = some (.int .u64 xi) := hx11.has (by first | exact y_6 | (simp [go_sem, World.cell?_alloc_past, x_0, x_1, x_2, x_3, x_4, x_5, x_6, x_7, y_0, y_1, y_2, y_3, y_4, y_5, y_6, y_7]; done))
        replace y_7 : w11.cell? ⟨b2, o2 + k * 8 + 7, none⟩ = some (.int .u64 xb) := hx11.has (by first | exact y_7 | (simp [go_sem, World.cell?_alloc_past, x_0, x_1, x_2, x_3, x_4, x_5, x_6, x_7, y_0, y_1, y_2, y_3, y_4, y_5, y_6, y_7]; done))
        have z11 := hx11.size
        try simp at z11
        have rx : b1 < w11.heap.size := by omega
        have rxa : b1 < w11.heap.size + 1 := by omega
        have rxb : b1 < w11.heap.size + 1 + 1 := by omega
        have rxc : b1 < w11.heap.size + 1 + 1 + 1 := by omega
        have rxn : ¬ b1 = w11.heap.size := by omega
        have ry : b2 < w11.heap.size := by omega
        have rya : b2 < w11.heap.size + 1 := by omega
        have ryb : b2 < w11.heap.size + 1 + 1 := by omega
        have ryc : b2 < w11.heap.size + 1 + 1 + 1 := by omega
        have ryn : ¬ b2 = w11.heap.size := by omega
        replace HS := Lib.hid (HS.out.ext (Ext.trans (by repeat (first | with_reducible exact Ext.refl _ | with_reducible refine Ext.drew ?_ | with_reducible refine Ext.drewN ?_ _ | with_reducible refine Ext.alloc ?_ _ | with_reducible refine Ext.setCell ?_ (by first | omega | (simp; done) | (simp; omega)) _)) hx11))
        replace HA := Lib.hid (HA.out.ext (Ext.trans (by repeat (first | with_reducible exact Ext.refl _ | with_reducible refine Ext.drew ?_ | with_reducible refine Ext.drewN ?_ _ | with_reducible refine Ext.alloc ?_ _ | with_reducible refine Ext.setCell ?_ (by first | omega | (simp; done) | (simp; omega)) _)) hx11))
        replace HB := Lib.hid (HB.out.ext (Ext.trans (by repeat (first | with_reducible exact Ext.refl _ | with_reducible refine Ext.drew ?_ | with_reducible refine Ext.drewN ?_ _ | with_reducible refine Ext.alloc ?_ _ | with_reducible refine Ext.setCell ?_ (by first | omega | (simp; done) | (simp; omega)) _)) hx11))
        have X11 : Hid (Ext w w11) := Lib.hid (Ext.trans (by repeat (first | with_reducible exact XR.out | with_reducible refine Ext.drew ?_ | with_reducible refine Ext.drewN ?_ _ | with_reducible refine Ext.alloc ?_ _ | with_reducible refine Ext.setCell ?_ (by first | omega | (simp; done) | (simp; omega)) _)) hx11)
        clear XR hx11 z11
        refine hK.out _ _ (by (first | exact ⟨x_1, x_2, x_3, x_4, x_5⟩ | (simp [go_sem, World.cell?_alloc_past, x_0, x_1, x_2, x_3, x_4, x_5, x_6, x_7, y_0, y_1, y_2, y_3, y_4, y_5, y_6, y_7, rx, rxa, rxb, rxc, rxn, ry, rya, ryb, ryc, ryn]; done))) (fun hHeld => ?_); clear hK K; try simp only [Act.put, List.setIfInBounds_toArray, List.set_cons_zero, List.set_cons_succ]
        refine wpAnyH_done (by kernel_rfl) ?_ _
        go_wp2_with fail
        refine wp_region_held_drew (S := fun w' => w'.cell? ⟨w11.heap.size, 0, none⟩ = some (.int .i64 xo) ∧ w'.cell? ⟨w11.heap.size, 1, none⟩ = some (.int .i64 xv) ∧ w'.cell? ⟨w11.heap.size, 2, none⟩ = some (.int .i64 xs) ∧ w'.cell? ⟨w11.heap.size, 3, none⟩ = some (.int .i64 xp) ∧ w'.cell? ⟨w11.heap.size, 4, none⟩ = some (.int .i64 xf) ∧ w'.cell? ⟨w11.heap.size, 5, none⟩ = some (.int .i64 xc) ∧ w'.cell? ⟨w11.heap.size, 6, none⟩ = some (.int .u64 xi) ∧ w'.cell? ⟨w11.heap.size, 7, none⟩ = some (.int .u64 xb) ∧ w'.cell? ⟨b2, o2 + k * 8, none⟩ = some (.int .i64 xo) ∧ w'.cell? ⟨b2, o2 + k * 8 + 1, none⟩ = some (.int .i64 xv) ∧ w'.cell? ⟨b2, o2 + k * 8 + 2, none⟩ = some (.int .i64 xs) ∧ w'.cell? ⟨b2, o2 + k * 8 + 3, none⟩ = some (.int .i64 xp) ∧ w'.cell? ⟨b2, o2 + k * 8 + 4, none⟩ = some (.int .i64 xf) ∧ w'.cell? ⟨b2, o2 + k * 8 + 5, none⟩ = some (.int .i64 xc) ∧ w'.cell? ⟨b2, o2 + k * 8 + 6, none⟩ = some (.int .u64 xi) ∧ w'.cell? ⟨b2, o2 + k * 8 + 7, none⟩ = some (.int .u64 xb)) (by kernel_rfl) (by first | exact ⟨c0_0, c0_1, c0_2, c0_3, c0_4, c0_5, c0_6, c0_7, y_0, y_1, y_2, y_3, y_4, y_5, y_6, y_7⟩ | (simp [go_sem, World.cell?_alloc_past, x_0, x_1, x_2, x_3, x_4, x_5, x_6, x_7, y_0, y_1, y_2, y_3, y_4, y_5, y_6, y_7, rx, rxa, rxb, rxc, rxn, ry, rya, ryb, ryc, ryn]; done)) (fun hHeld => ?_)
        (refine' take_in 0 rfl (by kernel_rfl) (by kernel_rfl) (by kernel_rfl) (fun _ _ _ h => h) (by rfl) (by assumption) ?_ ?_; rotate_left; focus (intro w hSw; (try dsimp only at hSw); go_simp; try with_reducible rfl)); try simp only [Act.put, List.setIfInBounds_toArray, List.set_cons_zero, List.set_cons_succ]
        (refine' take_in 1 rfl (by kernel_rfl) (by kernel_rfl) (by kernel_rfl) (fun _ _ _ h => h) (by rfl) (by assumption) ?_ ?_; rotate_left; focus (intro w hSw; (try dsimp only at hSw); go_simp; try with_reducible rfl)); try simp only [Act.put, List.setIfInBounds_toArray, List.set_cons_zero, List.set_cons_succ]
        (refine' take_in 2 rfl (by kernel_rfl) (by kernel_rfl) (by kernel_rfl) (fun _ _ _ h => h) (by rfl) (by assumption) ?_ ?_; rotate_left; focus (intro w hSw; (try dsimp only at hSw); go_simp; try with_reducible rfl)); try simp only [Act.put, List.setIfInBounds_toArray, List.set_cons_zero, List.set_cons_succ]
        (refine' take_in 3 rfl (by kernel_rfl) (by kernel_rfl) (by kernel_rfl) (fun _ _ _ h => h) (by rfl) (by assumption) ?_ ?_; rotate_left; focus (intro w hSw; (try dsimp only at hSw); go_simp; try with_reducible rfl)); try simp only [Act.put, List.setIfInBounds_toArray, List.set_cons_zero, List.set_cons_succ]
        (refine' take_in 4 rfl (by kernel_rfl) (by kernel_rfl) (by kernel_rfl) (fun _ _ _ h => h) (by rfl) (by assumption) ?_ ?_; rotate_left; focus (intro w hSw; (try dsimp only at hSw); go_simp; try with_reducible rfl)); try simp only [Act.put, List.setIfInBounds_toArray, List.set_cons_zero, List.set_cons_succ]
        (refine' take_in 5 rfl (by kernel_rfl) (by kernel_rfl) (by kernel_rfl) (fun _ _ _ h => h) (by rfl) (by assumption) ?_ ?_; rotate_left; focus (intro w hSw; (try dsimp only at hSw); go_simp; try with_reducible rfl)); try simp only [Act.put, List.setIfInBounds_toArray, List.set_cons_zero, List.set_cons_succ]
        (refine' take_in 6 rfl (by kernel_rfl) (by kernel_rfl) (by kernel_rfl) (fun _ _ _ h => h) (by rfl) (by assumption) ?_ ?_; rotate_left; focus (intro w hSw; (try dsimp only at hSw); go_simp; try with_reducible rfl)); try simp only [Act.put, List.setIfInBounds_toArray, List.set_cons_zero, List.set_cons_succ]
        (refine' take_in 7 rfl (by kernel_rfl) (by kernel_rfl) (by kernel_rfl) (fun _ _ _ h => h) (by rfl) (by assumption) ?_ ?_; rotate_left; focus (intro w hSw; (try dsimp only at hSw); go_simp; try with_reducible rfl)); try simp only [Act.put, List.setIfInBounds_toArray, List.set_cons_zero, List.set_cons_succ]
        (refine' take_in 8 rfl (by kernel_rfl) (by kernel_rfl) (by kernel_rfl) (fun _ _ _ h => h) (by rfl) (by assumption) ?_ ?_; rotate_left; focus (intro w hSw; (try dsimp only at hSw); go_simp; try with_reducible rfl)); try simp only [Act.put, List.setIfInBounds_toArray, List.set_cons_zero, List.set_cons_succ]
        (refine' take_in 9 rfl (by kernel_rfl) (by kernel_rfl) (by kernel_rfl) (fun _ _ _ h => h) (by rfl) (by assumption) ?_ ?_; rotate_left; focus (intro w hSw; (try dsimp only at hSw); go_simp; try with_reducible rfl)); try simp only [Act.put, List.setIfInBounds_toArray, List.set_cons_zero, List.set_cons_succ]
        (refine' take_in 10 rfl (by kernel_rfl) (by kernel_rfl) (by kernel_rfl) (fun _ _ _ h => h) (by rfl) (by assumption) ?_ ?_; rotate_left; focus (intro w hSw; (try dsimp only at hSw); go_simp; try with_reducible rfl)); try simp only [Act.put, List.setIfInBounds_toArray, List.set_cons_zero, List.set_cons_succ]
        (refine' take_in 11 rfl (by kernel_rfl) (by kernel_rfl) (by kernel_rfl) (fun _ _ _ h => h) (by rfl) (by assumption) ?_ ?_; rotate_left; focus (intro w hSw; (try dsimp only at hSw); go_simp; try with_reducible rfl)); try simp only [Act.put, List.setIfInBounds_toArray, List.set_cons_zero, List.set_cons_succ]
        refine wpAnyH_done (by kernel_rfl) ?_ _
        go_wp2_with fail
        go_roundg (gk - 1)
        case measure => have := HK.out; omega
        case rel =>
          have e3 : n - (gk - 1) = k + 1 := by have := HK.out; omega
          rw [e3, HT.out.1, HT.out.2]
          exact ⟨by have := HK.out; omega, num_eq (by have := HK.out; omega), rfl, rfl, Lib.hid (HS.out.ext (by repeat (first | with_reducible exact Ext.refl _ | with_reducible refine Ext.drew ?_ | with_reducible refine Ext.drewN ?_ _ | with_reducible refine Ext.alloc ?_ _ | with_reducible refine Ext.setCell ?_ (by first | omega | (simp; done) | (simp; omega)) _))), Lib.hid (HA.out.ext (by repeat (first | with_reducible exact Ext.refl _ | with_reducible refine Ext.drew ?_ | with_reducible refine Ext.drewN ?_ _ | with_reducible refine Ext.alloc ?_ _ | with_reducible refine Ext.setCell ?_ (by first | omega | (simp; done) | (simp; omega)) _))), Lib.hid (HB.out.ext (by repeat (first | with_reducible exact Ext.refl _ | with_reducible refine Ext.drew ?_ | with_reducible refine Ext.drewN ?_ _ | with_reducible refine Ext.alloc ?_ _ | with_reducible refine Ext.setCell ?_ (by first | omega | (simp; done) | (simp; omega)) _))), Lib.hid (by repeat (first | with_reducible exact X11.out | with_reducible refine Ext.drew ?_ | with_reducible refine Ext.drewN ?_ _ | with_reducible refine Ext.alloc ?_ _ | with_reducible refine Ext.setCell ?_ (by first | omega | (simp; done) | (simp; omega)) _))⟩
      · rw [e1] at CB
        obtain ⟨_, f2, f3⟩ := cut_t (p := p1) hl_x e1
        rw [f3, ← hCA, ← hP] at hbd
        have HT : Hid ((cutS l v h p1 (k + 1)).length = m + 1 ∧ cutA l v h p1 (k + 1) = CA + P) := Lib.hid ⟨by rw [f2, List.length_append, ← hm]; rfl, by rw [f3, ← hCA, ← hP]⟩
        have hy1 : R[k]? = some (xo, xv, xs, xp, xf, xc, xi, xb - P) := by rw [hy0]; unfold cutF; rw [if_pos e1]; rw [hP]; rfl
        have y_0 := hc_y k _ hy1 0 _ rfl
        have y_1 := hc_y k _ hy1 1 _ rfl
        have y_2 := hc_y k _ hy1 2 _ rfl
        have y_3 := hc_y k _ hy1 3 _ rfl
        have y_4 := hc_y k _ hy1 4 _ rfl
        have y_5 := hc_y k _ hy1 5 _ rfl
        have y_6 := hc_y k _ hy1 6 _ rfl
        have y_7 := hc_y k _ hy1 7 _ rfl
        simp only at y_0 y_1 y_2 y_3 y_4 y_5 y_6 y_7
        rw [Nat.add_zero] at y_0
        rw [← Nat.add_assoc] at y_1 y_2 y_3 y_4 y_5 y_6 y_7
        have hsz := hss e1
        have hmS : m < nS := by rw [← HSl.out]; exact (List.getElem?_eq_some_iff.1 hsz).1
        have hmn : ¬ (nS : Int) ≤ (m : Int) := by omega
        have hmd : decide ((nS : Int) ≤ (m : Int)) = false := decide_eq_false hmn
        have hmd2 : decide (nS ≤ m) = false := decide_eq_false (by omega)
        obtain ⟨b3, o3, rfl, hb3, hc_z⟩ := HB.out.rec_ shaveC_len (show 0 < nS from by omega)
        have z_0 := hc_z m _ hsz 0 _ rfl
        have z_1 := hc_z m _ hsz 1 _ rfl
        simp only at z_0 z_1
        rw [Nat.add_zero] at z_0
        rw [← Nat.add_assoc] at z_1
        have cu1 : 0 ≤ CA + P := by omega
        have cu2 : CA + P ≤ 4611686018427387904 := by omega
        have cu3 : 0 ≤ xb - P := by omega
        have cu4 : xb - P < 18446744073709551616 := by omega
        clear hk hg hz hl_x hba pa hP hCA hm f2 f3 e1 hss hy0 hy1 hc_x hc_y hc_z hsz hbd htk htt
        go_wp2_with fail
        refine wp_region_held_drew (S := fun w' => w'.cell? ⟨b1, o1 + k * 8 + 1, none⟩ = some (.int .i64 xv) ∧ w'.cell? ⟨b1, o1 + k * 8 + 2, none⟩ = some (.int .i64 xs) ∧ w'.cell? ⟨b1, o1 + k * 8 + 3, none⟩ = some (.int .i64 xp) ∧ w'.cell? ⟨b1, o1 + k * 8 + 4, none⟩ = some (.int .i64 xf) ∧ w'.cell? ⟨b1, o1 + k * 8 + 5, none⟩ = some (.int .i64 xc)) (by kernel_rfl) (by first | exact ⟨x_1, x_2, x_3, x_4, x_5⟩ | (simp [go_sem, World.cell?_alloc_past, x_0, x_1, x_2, x_3, x_4, x_5, x_6, x_7, y_0, y_1, y_2, y_3, y_4, y_5, y_6, y_7, z_0, z_1]; done)) (fun hHeld => ?_)
        (refine' take_in 0 rfl (by kernel_rfl) (by kernel_rfl) (by kernel_rfl) (fun _ _ _ h => h) (by rfl) (by assumption) ?_ ?_; rotate_left; focus (intro w hSw; (try dsimp only at hSw); go_simp; try with_reducible rfl)); try simp only [Act.put, List.setIfInBounds_toArray, List.set_cons_zero, List.set_cons_succ]
        (refine' take_in 1 rfl (by kernel_rfl) (by kernel_rfl) (by kernel_rfl) (fun _ _ _ h => h) (by rfl) (by assumption) ?_ ?_; rotate_left; focus (intro w hSw; (try dsimp only at hSw); go_simp; try with_reducible rfl)); try simp only [Act.put, List.setIfInBounds_toArray, List.set_cons_zero, List.set_cons_succ]
        (refine' take_in 2 rfl (by kernel_rfl) (by kernel_rfl) (by kernel_rfl) (fun _ _ _ h => h) (by rfl) (by assumption) ?_ ?_; rotate_left; focus (intro w hSw; (try dsimp only at hSw); go_simp; try with_reducible rfl)); try simp only [Act.put, List.setIfInBounds_toArray, List.set_cons_zero, List.set_cons_succ]
        (refine' take_in 3 rfl (by kernel_rfl) (by kernel_rfl) (by kernel_rfl) (fun _ _ _ h => h) (by rfl) (by assumption) ?_ ?_; rotate_left; focus (intro w hSw; (try dsimp only at hSw); go_simp; try with_reducible rfl)); try simp only [Act.put, List.setIfInBounds_toArray, List.set_cons_zero, List.set_cons_succ]
        (refine' take_in 4 rfl (by kernel_rfl) (by kernel_rfl) (by kernel_rfl) (fun _ _ _ h => h) (by rfl) (by assumption) ?_ ?_; rotate_left; focus (intro w hSw; (try dsimp only at hSw); go_simp; try with_reducible rfl)); try simp only [Act.put, List.setIfInBounds_toArray, List.set_cons_zero, List.set_cons_succ]
        (refine' take_in 5 rfl (by kernel_rfl) (by kernel_rfl) (by kernel_rfl) (fun _ _ _ h => h) (by rfl) (by assumption) ?_ ?_; rotate_left; focus (intro w hSw; (try dsimp only at hSw); go_simp; try with_reducible rfl)); try simp only [Act.put, List.setIfInBounds_toArray, List.set_cons_zero, List.set_cons_succ]
        (refine' take_in 6 rfl (by kernel_rfl) (by kernel_rfl) (by kernel_rfl) (fun _ _ _ h => h) (by rfl) (by assumption) ?_ ?_; rotate_left; focus (intro w hSw; (try dsimp only at hSw); go_simp; try with_reducible rfl)); try simp only [Act.put, List.setIfInBounds_toArray, List.set_cons_zero, List.set_cons_succ]
        (refine' take_in 7 rfl (by kernel_rfl) (by kernel_rfl) (by kernel_rfl) (fun _ _ _ h => h) (by rfl) (by assumption) ?_ ?_; rotate_left; focus (intro w hSw; (try dsimp only at hSw); go_simp; try with_reducible rfl)); try simp only [Act.put, List.setIfInBounds_toArray, List.set_cons_zero, List.set_cons_succ]
        (refine' take_in 8 rfl (by kernel_rfl) (by kernel_rfl) (by kernel_rfl) (fun _ _ _ h => h) (by rfl) (by assumption) ?_ ?_; rotate_left; focus (intro w hSw; (try dsimp only at hSw); go_simp; try with_reducible rfl)); try simp only [Act.put, List.setIfInBounds_toArray, List.set_cons_zero, List.set_cons_succ]
        (refine' take_in 9 rfl (by kernel_rfl) (by kernel_rfl) (by kernel_rfl) (fun _ _ _ h => h) (by rfl) (by assumption) ?_ ?_; rotate_left; focus (intro w hSw; (try dsimp only at hSw); go_simp; try with_reducible rfl)); try simp only [Act.put, List.setIfInBounds_toArray, List.set_cons_zero, List.set_cons_succ]
        (refine' take_in 10 rfl (by kernel_rfl) (by kernel_rfl) (by kernel_rfl) (fun _ _ _ h => h) (by rfl) (by assumption) ?_ ?_; rotate_left; focus (intro w hSw; (try dsimp only at hSw); go_simp; try with_reducible rfl)); try simp only [Act.put, List.setIfInBounds_toArray, List.set_cons_zero, List.set_cons_succ]
        (refine' take_in 11 rfl (by kernel_rfl) (by kernel_rfl) (by kernel_rfl) (fun _ _ _ h => h) (by rfl) (by assumption) ?_ ?_; rotate_left; focus (intro w hSw; (try dsimp only at hSw); go_simp; try with_reducible rfl)); try simp only [Act.put, List.setIfInBounds_toArray, List.set_cons_zero, List.set_cons_succ]
        refine' next_in 12 rfl (by kernel_rfl) (by rfl) (fun K hK => ?_)
        go_simp
        (with_reducible refine (CB.out _).mono ?_)
        rintro e w11 ⟨rfl, hx11⟩
        replace x_0 : w11.cell? ⟨b1, o1 + k * 8, none⟩ = some (.int .i64 xo) := hx11.has (by first | exact x_0 | (simp [go_sem, World.cell?_alloc_past, x_0, x_1, x_2, x_3, x_4, x_5, x_6, x_7, y_0, y_1, y_2, y_3, y_4, y_5, y_6, y_7, z_0, z_1]; done))
        replace x_1 : w11.cell? ⟨b1, o1 + k * 8 + 1, none⟩ = some (.int .i64 xv) := hx11.has (by first | exact x_1 | (simp [go_sem, World.cell?_alloc_past, x_0, x_1, x_2, x_3, x_4, x_5, x_6, x_7, y_0, y_1, y_2, y_3, y_4, y_5, y_6, y_7, z_0, z_1]; done))
        replace x_2 : w11.cell? ⟨b1, o1 + k * 8 + 2, none⟩ = some (.int .i64 xs) := hx11.has (by first | exact x_2 | (simp [go_sem, World.cell?_alloc_past, x_0, x_1, x_2, x_3, x_4, x_5, x_6, x_7, y_0, y_1, y_2, y_3, y_4, y_5, y_6, y_7, z_0, z_1]; done))
        replace x_3 : w11.cell? ⟨b1, o1 + k * 8 + 3, none⟩ = some (.int .i64 xp) := hx11.has (by first | exact x_3 | (simp [go_sem, World.cell?_alloc_past, x_0, x_1, x_2, x_3, x_4, x_5, x_6, x_7, y_0, y_1, y_2, y_3, y_4, y_5, y_6, y_7, z_0, z_1]; done))
        replace x_4 : w11.cell? ⟨b1, o1 + k * 8 + 4, none⟩ = some (.int .i64 xf) := hx11.has (by first | exact x_4 | (simp [go_sem, World.cell?_alloc_past, x_0, x_1, x_2, x_3, x_4, x_5, x_6, x_7, y_0, y_1, y_2, y_3, y_4, y_5, y_6, y_7, z_0, z_1]; done))
        replace x_5 : w11.cell? ⟨b1, o1 + k * 8 + 5, none⟩ = some (.int .i64 xc) := hx11.has (by first | exact x_5 | (simp [go_sem, World.cell?_alloc_past, x_0, x_1, x_2, x_3, x_4, x_5, x_6, x_7, y_0, y_1, y_2, y_3, y_4, y_5, y_6, y_7, z_0, z_1]; done))
        replace x_6 : w11.cell? ⟨b1, o1 + k * 8 + 6, none⟩ = some (.int .u64 xi) := hx11.has (by first | exact x_6 | (simp [go_sem, World.cell?_alloc_past, x_0, x_1, x_2, x_3, x_4, x_5, x_6, x_7, y_0, y_1, y_2, y_3, y_4, y_5, y_6, y_7, z_0, z_1]; done))
        replace x_7 : w11.cell? ⟨b1, o1 + k * 8 + 7, none⟩ = some (.int .u64 xb) := hx11.has (by first | exact x_7 | (simp [go_sem, World.cell?_alloc_past, x_0, x_1, x_2, x_3, x_4, x_5, x_6, x_7, y_0, y_1, y_2, y_3, y_4, y_5, y_6, y_7, z_0, z_1]; done))
        replace y_0 : w11.cell? ⟨b2, o2 + k * 8, none⟩ = some (.int .i64 xo) := hx11.has (by first | exact y_0 | (simp [go_sem, World.cell?_alloc_past, x_0, x_1, x_2, x_3, x_4, x_5, x_6, x_7, y_0, y_1, y_2, y_3, y_4, y_5, y_6, y_7, z_0, z_1]; done))
        replace y_1 : w11.cell? ⟨b2, o2 + k * 8 + 1, none⟩ = some (.int .i64 xv) := hx11.has (by first | exact y_1 | (simp [go_sem, World.cell?_alloc_past, x_0, x_1, x_2, x_3, x_4, x_5, x_6, x_7, y_0, y_1, y_2, y_3, y_4, y_5, y_6, y_7, z_0, z_1]; done))
        replace y_2 : w11.cell? ⟨b2, o2 + k * 8 + 2, none⟩ = some (.int .i64 xs) := hx11.has (by first | exact y_2 | (simp [go_sem, World.cell?_alloc_past, x_0, x_1, x_2, x_3, x_4, x_5, x_6, x_7, y_0, y_1, y_2, y_3, y_4, y_5, y_6, y_7, z_0, z_1]; done))
        replace y_3 : w11.cell? ⟨b2, o2 + k * 8 + 3, none⟩ = some (.int .i64 xp) := hx11.has (by first | exact y_3 | (simp [go_sem, World.cell?_alloc_past, x_0, x_1, x_2, x_3, x_4, x_5, x_6, x_7, y_0, y_1, y_2, y_3, y_4, y_5, y_6, y_7, z_0, z_1]; done))
        replace y_4 : w11.cell? ⟨b2, o2 + k * 8 + 4, none⟩ = some (.int .i64 xf) := hx11.has (by first | exact y_4 | (simp [go_sem, World.cell?_alloc_past, x_0, x_1, x_2, x_3, x_4, x_5, x_6, x_7, y_0, y_1, y_2, y_3, y_4, y_5, y_6, y_7, z_0, z_1]; done))
        replace y_5 : w11.cell? ⟨b2, o2 + k * 8 + 5, none⟩ = some (.int .i64 xc) := hx11.has (by first | exact y_5 | (simp [go_sem, World.cell?_alloc_past, x_0, x_1, x_2, x_3, x_4, x_5, x_6, x_7, y_0, y_1, y_2, y_3, y_4, y_5, y_6, y_7, z_0, z_1]; done))
        replace y_6 : w11.cell? ⟨b2, o2 + k * 8 + 6, none⟩ = some (.int .u64 xi) := hx11.has (by first | exact y_6 | (simp [go_sem, World.cell?_alloc_past, x_0, x_1, x_2, x_3, x_4, x_5, x_6, x_7, y_0, y_1, y_2, y_3, y_4, y_5, y_6, y_7, z_0, z_1]; done))
        replace y_7 : w11.cell? ⟨b2, o2 + k * 8 + 7, none⟩ = some (.int .u64 (xb - P)) := hx11.has (by first | exact y_7 | (simp [go_sem, World.cell?_alloc_past, x_0, x_1, x_2, x_3, x_4, x_5, x_6, x_7, y_0, y_1, y_2, y_3, y_4, y_5, y_6, y_7, z_0, z_1]; done))
        replace z_0 : w11.cell? ⟨b3, o3 + m * 2, none⟩ = some (.int .i64 (k : Int)) := hx11.has (by first | exact z_0 | (simp [go_sem, World.cell?_alloc_past, x_0, x_1, x_2, x_3, x_4, x_5, x_6, x_7, y_0, y_1, y_2, y_3, y_4, y_5, y_6, y_7, z_0, z_1]; done))
        replace z_1 : w11.cell? ⟨b3, o3 + m * 2 + 1, none⟩ = some (.int .u64 P) := hx11.has (by first | exact z_1 | (simp [go_sem, World.cell?_alloc_past, x_0, x_1, x_2, x_3, x_4, x_5, x_6, x_7, y_0, y_1, y_2, y_3, y_4, y_5, y_6, y_7, z_0, z_1]; done))
        have z11 := hx11.size
        try simp at z11
        have rx : b1 < w11.heap.size := by omega
        have rxa : b1 < w11.heap.size + 1 := by omega
        have rxb : b1 < w11.heap.size + 1 + 1 := by omega
        have rxc : b1 < w11.heap.size + 1 + 1 + 1 := by omega
        have rxn : ¬ b1 = w11.heap.size := by omega
        have ry : b2 < w11.heap.size := by omega
        have rya : b2 < w11.heap.size + 1 := by omega
        have ryb : b2 < w11.heap.size + 1 + 1 := by omega
        have ryc : b2 < w11.heap.size + 1 + 1 + 1 := by omega
        have ryn : ¬ b2 = w11.heap.size := by omega
        have rz : b3 < w11.heap.size := by omega
        have rza : b3 < w11.heap.size + 1 := by omega
        have rzb : b3 < w11.heap.size + 1 + 1 := by omega
        have rzc : b3 < w11.heap.size + 1 + 1 + 1 := by omega
        have rzn : ¬ b3 = w11.heap.size := by omega
        replace HS := Lib.hid (HS.out.ext (Ext.trans (by repeat (first | with_reducible exact Ext.refl _ | with_reducible refine Ext.drew ?_ | with_reducible refine Ext.drewN ?_ _ | with_reducible refine Ext.alloc ?_ _ | with_reducible refine Ext.setCell ?_ (by first | omega | (simp; done) | (simp; omega)) _)) hx11))
        replace HA := Lib.hid (HA.out.ext (Ext.trans (by repeat (first | with_reducible exact Ext.refl _ | with_reducible refine Ext.drew ?_ | with_reducible refine Ext.drewN ?_ _ | with_reducible refine Ext.alloc ?_ _ | with_reducible refine Ext.setCell ?_ (by first | omega | (simp; done) | (simp; omega)) _)) hx11))
        replace HB := Lib.hid (HB.out.ext (Ext.trans (by repeat (first | with_reducible exact Ext.refl _ | with_reducible refine Ext.drew ?_ | with_reducible refine Ext.drewN ?_ _ | with_reducible refine Ext.alloc ?_ _ | with_reducible refine Ext.setCell ?_ (by first | omega | (simp; done) | (simp; omega)) _)) hx11))
        have X11 : Hid (Ext w w11) := Lib.hid (Ext.trans (by repeat (first | with_reducible exact XR.out | with_reducible refine Ext.drew ?_ | with_reducible refine Ext.drewN ?_ _ | with_reducible refine Ext.alloc ?_ _ | with_reducible refine Ext.setCell ?_ (by first | omega | (simp; done) | (simp; omega)) _)) hx11)
        clear XR hx11 z11
        refine hK.out _ _ (by (first | exact ⟨x_1, x_2, x_3, x_4, x_5⟩ | (simp [go_sem, World.cell?_alloc_past, x_0, x_1, x_2, x_3, x_4, x_5, x_6, x_7, y_0, y_1, y_2, y_3, y_4, y_5, y_6, y_7, z_0, z_1, rx, rxa, rxb, rxc, rxn, ry, rya, ryb, ryc, ryn, rz, rza, rzb, rzc, rzn]; done))) (fun hHeld => ?_); clear hK K; try simp only [Act.put, List.setIfInBounds_toArray, List.set_cons_zero, List.set_cons_succ]
        refine wpAnyH_done (by kernel_rfl) ?_ _
        go_wp2_with fail
        (with_reducible refine (CP.out _).mono ?_)
        rintro e w12 ⟨rfl, hx12⟩
        replace x_0 : w12.cell? ⟨b1, o1 + k * 8, none⟩ = some (.int .i64 xo) := hx12.has (by first | exact x_0 | (simp [go_sem, World.cell?_alloc_past, x_0, x_1, x_2, x_3, x_4, x_5, x_6, x_7, y_0, y_1, y_2, y_3, y_4, y_5, y_6, y_7, z_0, z_1, rx, rxa, rxb, rxc, rxn, ry, rya, ryb, ryc, ryn, rz, rza, rzb, rzc, rzn]; done))
        replace x_1 : w12.cell? ⟨b1, o1 + k * 8 + 1, none⟩ = some (.int .i64 xv) := hx12.has (by first | exact x_1 | (simp [go_sem, World.cell?_alloc_past, x_0, x_1, x_2, x_3, x_4, x_5, x_6, x_7, y_0, y_1, y_2, y_3, y_4, y_5, y_6, y_7, z_0, z_1, rx, rxa, rxb, rxc, rxn, ry, rya, ryb, ryc, ryn, rz, rza, rzb, rzc, rzn]; done))
        replace x_2 : w12.cell? ⟨b1, o1 + k * 8 + 2, none⟩ = some (.int .i64 xs) := hx12.has (by first | exact x_2 | (simp [go_sem, World.cell?_alloc_past, x_0, x_1, x_2, x_3, x_4, x_5, x_6, x_7, y_0, y_1, y_2, y_3, y_4, y_5, y_6, y_7, z_0, z_1, rx, rxa, rxb, rxc, rxn, ry, rya, ryb, ryc, ryn, rz, rza, rzb, rzc, rzn]; done))
        replace x_3 : w12.cell? ⟨b1, o1 + k * 8 + 3, none⟩ = some (.int .i64 xp) := hx12.has (by first | exact x_3 | (simp [go_sem, World.cell?_alloc_past, x_0, x_1, x_2, x_3, x_4, x_5, x_6, x_7, y_0, y_1, y_2, y_3, y_4, y_5, y_6, y_7, z_0, z_1, rx, rxa, rxb, rxc, rxn, ry, rya, ryb, ryc, ryn, rz, rza, rzb, rzc, rzn]; done))
        replace x_4 : w12.cell? ⟨b1, o1 + k * 8 + 4, none⟩ = some (.int .i64 xf) := hx12.has (by first | exact x_4 | (simp [go_sem, World.cell?_alloc_past, x_0, x_1, x_2, x_3, x_4, x_5, x_6, x_7, y_0, y_1, y_2, y_3, y_4, y_5, y_6, y_7, z_0, z_1, rx, rxa, rxb, rxc, rxn, ry, rya, ryb, ryc, ryn, rz, rza, rzb, rzc, rzn]; done))
        replace x_5 : w12.cell? ⟨b1, o1 + k * 8 + 5, none⟩ = some (.int .i64 xc) := hx12.has (by first | exact x_5 | (simp [go_sem, World.cell?_alloc_past, x_0, x_1, x_2, x_3, x_4, x_5, x_6, x_7, y_0, y_1, y_2, y_3, y_4, y_5, y_6, y_7, z_0, z_1, rx, rxa, rxb, rxc, rxn, ry, rya, ryb, ryc, ryn, rz, rza, rzb, rzc, rzn]; done))
        replace x_6 : w12.cell? ⟨b1, o1 + k * 8 + 6, none⟩ = some (.int .u64 xi) := hx12.has (by first | exact x_6 | (simp [go_sem, World.cell?_alloc_past, x_0, x_1, x_2, x_3, x_4, x_5, x_6, x_7, y_0, y_1, y_2, y_3, y_4, y_5, y_6, y_7, z_0, z_1, rx, rxa, rxb, rxc, rxn, ry, rya, ryb, ryc, ryn, rz, rza, rzb, rzc, rzn]; done))
        replace x_7 : w12.cell? ⟨b1, o1 + k * 8 + 7, none⟩ = some (.int .u64 xb) := hx12.has (by first | exact x_7 | (simp [go_sem, World.cell?_alloc_past, x_0, x_1, x_2, x_3, x_4, x_5, x_6, x_7, y_0, y_1, y_2, y_3, y_4, y_5, y_6, y_7, z_0, z_1, rx, rxa, rxb, rxc, rxn, ry, rya, ryb, ryc, ryn, rz, rza, rzb, rzc, rzn]; done))
        replace y_0 : w12.cell? ⟨b2, o2 + k * 8, none⟩ = some (.int .i64 xo) := hx12.has (by first | exact y_0 | (simp [go_sem, World.cell?_alloc_past, x_0, x_1, x_2, x_3, x_4, x_5, x_6, x_7, y_0, y_1, y_2, y_3, y_4, y_5, y_6, y_7, z_0, z_1, rx, rxa, rxb, rxc, rxn, ry, rya, ryb, ryc, ryn, rz, rza, rzb, rzc, rzn]; done))
        replace y_1 : w12.cell? ⟨b2, o2 + k * 8 + 1, none⟩ = some (.int .i64 xv) := hx12.has (by first | exact y_1 | (simp [go_sem, World.cell?_alloc_past, x_0, x_1, x_2, x_3, x_4, x_5, x_6, x_7, y_0, y_1, y_2, y_3, y_4, y_5, y_6, y_7, z_0, z_1, rx, rxa, rxb, rxc, rxn, ry, rya, ryb, ryc, ryn, rz, rza, rzb, rzc, rzn]; done))
        replace y_2 : w12.cell? ⟨b2, o2 + k * 8 + 2, none⟩ = some (.int .i64 xs) := hx12.has (by first | exact y_2 | (simp [go_sem, World.cell?_alloc_past, x_0, x_1, x_2, x_3, x_4, x_5, x_6, x_7, y_0, y_1, y_2, y_3, y_4, y_5, y_6, y_7, z_0, z_1, rx, rxa, rxb, rxc, rxn, ry, rya, ryb, ryc, ryn, rz, rza, rzb, rzc, rzn]; done))
        replace y_3 : w12.cell? ⟨b2, o2 + k * 8 + 3, none⟩ = some (.int .i64 xp) := hx12.has (by first | exact y_3 | (simp [go_sem, World.cell?_alloc_past, x_0, x_1, x_2, x_3, x_4, x_5, x_6, x_7, y_0, y_1, y_2, y_3, y_4, y_5, y_6, y_7, z_0, z_1, rx, rxa, rxb, rxc, rxn, ry, rya, ryb, ryc, ryn, rz, rza, rzb, rzc, rzn]; done))
        replace y_4 : w12.cell? ⟨b2, o2 + k * 8 + 4, none⟩ = some (.int .i64 xf) := hx12.has (by first | exact y_4 | (simp [go_sem, World.cell?_alloc_past, x_0, x_1, x_2, x_3, x_4, x_5, x_6, x_7, y_0, y_1, y_2, y_3, y_4, y_5, y_6, y_7, z_0, z_1, rx, rxa, rxb, rxc, rxn, ry, rya, ryb, ryc, ryn, rz, rza, rzb, rzc, rzn]; done))
        replace y_5 : w12.cell? ⟨b2, o2 + k * 8 + 5, none⟩ = some (.int .i64 xc) := hx12.has (by first | exact y_5 | (simp [go_sem, World.cell?_alloc_past, x_0, x_1, x_2, x_3, x_4, x_5, x_6, x_7, y_0, y_1, y_2, y_3, y_4, y_5, y_6, y_7, z_0, z_1, rx, rxa, rxb, rxc, rxn, ry, rya, ryb, ryc, ryn, rz, rza, rzb, rzc, rzn]; done))
        replace y_6 : w12.cell? ⟨b2, o2 + k * 8 + 6, none⟩ = some (.int .u64 xi) := hx12.has (by first | exact y_6 | (simp [go_sem, World.cell?_alloc_past, x_0, x_1, x_2, x_3, x_4, x_5, x_6, x_7, y_0, y_1, y_2, y_3, y_4, y_5, y_6, y_7, z_0, z_1, rx, rxa, rxb, rxc, rxn, ry, rya, ryb, ryc, ryn, rz, rza, rzb, rzc, rzn]; done))
        replace y_7 : w12.cell? ⟨b2, o2 + k * 8 + 7, none⟩ = some (.int .u64 (xb - P)) := hx12.has (by first | exact y_7 | (simp [go_sem, World.cell?_alloc_past, x_0, x_1, x_2, x_3, x_4, x_5, x_6, x_7, y_0, y_1, y_2, y_3, y_4, y_5, y_6, y_7, z_0, z_1, rx, rxa, rxb, rxc, rxn, ry, rya, ryb, ryc, ryn, rz, rza, rzb, rzc, rzn]; done))
        replace z_0 : w12.cell? ⟨b3, o3 + m * 2, none⟩ = some (.int .i64 (k : Int)) := hx12.has (by first | exact z_0 | (simp [go_sem, World.cell?_alloc_past, x_0, x_1, x_2, x_3, x_4, x_5, x_6, x_7, y_0, y_1, y_2, y_3, y_4, y_5, y_6, y_7, z_0, z_1, rx, rxa, rxb, rxc, rxn, ry, rya, ryb, ryc, ryn, rz, rza, rzb, rzc, rzn]; done))
        replace z_1 : w12.cell? ⟨b3, o3 + m * 2 + 1, none⟩ = some (.int .u64 P) := hx12.has (by first | exact z_1 | (simp [go_sem, World.cell?_alloc_past, x_0, x_1, x_2, x_3, x_4, x_5, x_6, x_7, y_0, y_1, y_2, y_3, y_4, y_5, y_6, y_7, z_0, z_1, rx, rxa, rxb, rxc, rxn, ry, rya, ryb, ryc, ryn, rz, rza, rzb, rzc, rzn]; done))
        have z12 := hx12.size
        try simp at z12
        replace rx : b1 < w12.heap.size := by omega
        replace rxa : b1 < w12.heap.size + 1 := by omega
        replace rxb : b1 < w12.heap.size + 1 + 1 := by omega
        replace rxc : b1 < w12.heap.size + 1 + 1 + 1 := by omega
        replace rxn : ¬ b1 = w12.heap.size := by omega
        replace ry : b2 < w12.heap.size := by omega
        replace rya : b2 < w12.heap.size + 1 := by omega
        replace ryb : b2 < w12.heap.size + 1 + 1 := by omega
        replace ryc : b2 < w12.heap.size + 1 + 1 + 1 := by omega
        replace ryn : ¬ b2 = w12.heap.size := by omega
        replace rz : b3 < w12.heap.size := by omega
        replace rza : b3 < w12.heap.size + 1 := by omega
        replace rzb : b3 < w12.heap.size + 1 + 1 := by omega
        replace rzc : b3 < w12.heap.size + 1 + 1 + 1 := by omega
        replace rzn : ¬ b3 = w12.heap.size := by omega
        replace HS := Lib.hid (HS.out.ext (Ext.trans (by repeat (first | with_reducible exact Ext.refl _ | with_reducible refine Ext.drew ?_ | with_reducible refine Ext.drewN ?_ _ | with_reducible refine Ext.alloc ?_ _ | with_reducible refine Ext.setCell ?_ (by first | omega | (simp; done) | (simp; omega)) _)) hx12))
        replace HA := Lib.hid (HA.out.ext (Ext.trans (by repeat (first | with_reducible exact Ext.refl _ | with_reducible refine Ext.drew ?_ | with_reducible refine Ext.drewN ?_ _ | with_reducible refine Ext.alloc ?_ _ | with_reducible refine Ext.setCell ?_ (by first | omega | (simp; done) | (simp; omega)) _)) hx12))
        replace HB := Lib.hid (HB.out.ext (Ext.trans (by repeat (first | with_reducible exact Ext.refl _ | with_reducible refine Ext.drew ?_ | with_reducible refine Ext.drewN ?_ _ | with_reducible refine Ext.alloc ?_ _ | with_reducible refine Ext.setCell ?_ (by first | omega | (simp; done) | (simp; omega)) _)) hx12))
        have X12 : Hid (Ext w w12) := Lib.hid (Ext.trans (by repeat (first | with_reducible exact X11.out | with_reducible refine Ext.drew ?_ | with_reducible refine Ext.drewN ?_ _ | with_reducible refine Ext.alloc ?_ _ | with_reducible refine Ext.setCell ?_ (by first | omega | (simp; done) | (simp; omega)) _)) hx12)
        clear X11 hx12 z12
        go_wp2_with fail
        refine wp_region_held_drew (S := fun w' => w'.cell? ⟨w12.heap.size, 0, none⟩ = some (.int .i64 xo) ∧ w'.cell? ⟨w12.heap.size, 1, none⟩ = some (.int .i64 xv) ∧ w'.cell? ⟨w12.heap.size, 2, none⟩ = some (.int .i64 xs) ∧ w'.cell? ⟨w12.heap.size, 3, none⟩ = some (.int .i64 xp) ∧ w'.cell? ⟨w12.heap.size, 4, none⟩ = some (.int .i64 xf) ∧ w'.cell? ⟨w12.heap.size, 5, none⟩ = some (.int .i64 xc) ∧ w'.cell? ⟨w12.heap.size, 6, none⟩ = some (.int .u64 xi) ∧ w'.cell? ⟨w12.heap.size, 7, none⟩ = some (.int .u64 (xb - P)) ∧ w'.cell? ⟨b2, o2 + k * 8, none⟩ = some (.int .i64 xo) ∧ w'.cell? ⟨b2, o2 + k * 8 + 1, none⟩ = some (.int .i64 xv) ∧ w'.cell? ⟨b2, o2 + k * 8 + 2, none⟩ = some (.int .i64 xs) ∧ w'.cell? ⟨b2, o2 + k * 8 + 3, none⟩ = some (.int .i64 xp) ∧ w'.cell? ⟨b2, o2 + k * 8 + 4, none⟩ = some (.int .i64 xf) ∧ w'.cell? ⟨b2, o2 + k * 8 + 5, none⟩ = some (.int .i64 xc) ∧ w'.cell? ⟨b2, o2 + k * 8 + 6, none⟩ = some (.int .u64 xi) ∧ w'.cell? ⟨b2, o2 + k * 8 + 7, none⟩ = some (.int .u64 (xb - P))) (by kernel_rfl) (by first | exact ⟨c0_0, c0_1, c0_2, c0_3, c0_4, c0_5, c0_6, c0_7, y_0, y_1, y_2, y_3, y_4, y_5, y_6, y_7⟩ | (simp [go_sem, World.cell?_alloc_past, x_0, x_1, x_2, x_3, x_4, x_5, x_6, x_7, y_0, y_1, y_2, y_3, y_4, y_5, y_6, y_7, z_0, z_1, rx, rxa, rxb, rxc, rxn, ry, rya, ryb, ryc, ryn, rz, rza, rzb, rzc, rzn]; done)) (fun hHeld => ?_)
        (refine' take_in 0 rfl (by kernel_rfl) (by kernel_rfl) (by kernel_rfl) (fun _ _ _ h => h) (by rfl) (by assumption) ?_ ?_; rotate_left; focus (intro w hSw; (try dsimp only at hSw); go_simp; try with_reducible rfl)); try simp only [Act.put, List.setIfInBounds_toArray, List.set_cons_zero, List.set_cons_succ]
        (refine' take_in 1 rfl (by kernel_rfl) (by kernel_rfl) (by kernel_rfl) (fun _ _ _ h => h) (by rfl) (by assumption) ?_ ?_; rotate_left; focus (intro w hSw; (try dsimp only at hSw); go_simp; try with_reducible rfl)); try simp only [Act.put, List.setIfInBounds_toArray, List.set_cons_zero, List.set_cons_succ]
        (refine' take_in 2 rfl (by kernel_rfl) (by kernel_rfl) (by kernel_rfl) (fun _ _ _ h => h) (by rfl) (by assumption) ?_ ?_; rotate_left; focus (intro w hSw; (try dsimp only at hSw); go_simp; try with_reducible rfl)); try simp only [Act.put, List.setIfInBounds_toArray, List.set_cons_zero, List.set_cons_succ]
        (refine' take_in 3 rfl (by kernel_rfl) (by kernel_rfl) (by kernel_rfl) (fun _ _ _ h => h) (by rfl) (by assumption) ?_ ?_; rotate_left; focus (intro w hSw; (try dsimp only at hSw); go_simp; try with_reducible rfl)); try simp only [Act.put, List.setIfInBounds_toArray, List.set_cons_zero, List.set_cons_succ]
        (refine' take_in 4 rfl (by kernel_rfl) (by kernel_rfl) (by kernel_rfl) (fun _ _ _ h => h) (by rfl) (by assumption) ?_ ?_; rotate_left; focus (intro w hSw; (try dsimp only at hSw); go_simp; try with_reducible rfl)); try simp only [Act.put, List.setIfInBounds_toArray, List.set_cons_zero, List.set_cons_succ]
        (refine' take_in 5 rfl (by kernel_rfl) (by kernel_rfl) (by kernel_rfl) (fun _ _ _ h => h) (by rfl) (by assumption) ?_ ?_; rotate_left; focus (intro w hSw; (try dsimp only at hSw); go_simp; try with_reducible rfl)); try simp only [Act.put, List.setIfInBounds_toArray, List.set_cons_zero, List.set_cons_succ]
        (refine' take_in 6 rfl (by kernel_rfl) (by kernel_rfl) (by kernel_rfl) (fun _ _ _ h => h) (by rfl) (by assumption) ?_ ?_; rotate_left; focus (intro w hSw; (try dsimp only at hSw); go_simp; try with_reducible rfl)); try simp only [Act.put, List.setIfInBounds_toArray, List.set_cons_zero, List.set_cons_succ]
        (refine' take_in 7 rfl (by kernel_rfl) (by kernel_rfl) (by kernel_rfl) (fun _ _ _ h => h) (by rfl) (by assumption) ?_ ?_; rotate_left; focus (intro w hSw; (try dsimp only at hSw); go_simp; try with_reducible rfl)); try simp only [Act.put, List.setIfInBounds_toArray, List.set_cons_zero, List.set_cons_succ]
        (refine' take_in 8 rfl (by kernel_rfl) (by kernel_rfl) (by kernel_rfl) (fun _ _ _ h => h) (by rfl) (by assumption) ?_ ?_; rotate_left; focus (intro w hSw; (try dsimp only at hSw); go_simp; try with_reducible rfl)); try simp only [Act.put, List.setIfInBounds_toArray, List.set_cons_zero, List.set_cons_succ]
        (refine' take_in 9 rfl (by kernel_rfl) (by kernel_rfl) (by kernel_rfl) (fun _ _ _ h => h) (by rfl) (by assumption) ?_ ?_; rotate_left; focus (intro w hSw; (try dsimp only at hSw); go_simp; try with_reducible rfl)); try simp only [Act.put, List.setIfInBounds_toArray, List.set_cons_zero, List.set_cons_succ]
        (refine' take_in 10 rfl (by kernel_rfl) (by kernel_rfl) (by kernel_rfl) (fun _ _ _ h => h) (by rfl) (by assumption) ?_ ?_; rotate_left; focus (intro w hSw; (try dsimp only at hSw); go_simp; try with_reducible rfl)); try simp only [Act.put, List.setIfInBounds_toArray, List.set_cons_zero, List.set_cons_succ]
        (refine' take_in 11 rfl (by kernel_rfl) (by kernel_rfl) (by kernel_rfl) (fun _ _ _ h => h) (by rfl) (by assumption) ?_ ?_; rotate_left; focus (intro w hSw; (try dsimp only at hSw); go_simp; try with_reducible rfl)); try simp only [Act.put, List.setIfInBounds_toArray, List.set_cons_zero, List.set_cons_succ]
        refine wpAnyH_done (by kernel_rfl) ?_ _
        go_wp2_with fail
        go_roundg (gk - 1)
        case measure => have := HK.out; omega
        case rel =>
          have e3 : n - (gk - 1) = k + 1 := by have := HK.out; omega
          rw [e3, HT.out.1, HT.out.2]
          exact ⟨by have := HK.out; omega, num_eq (by have := HK.out; omega), num_eq (by omega), rfl, Lib.hid (HS.out.ext (by repeat (first | with_reducible exact Ext.refl _ | with_reducible refine Ext.drew ?_ | with_reducible refine Ext.drewN ?_ _ | with_reducible refine Ext.alloc ?_ _ | with_reducible refine Ext.setCell ?_ (by first | omega | (simp; done) | (simp; omega)) _))), Lib.hid (HA.out.ext (by repeat (first | with_reducible exact Ext.refl _ | with_reducible refine Ext.drew ?_ | with_reducible refine Ext.drewN ?_ _ | with_reducible refine Ext.alloc ?_ _ | with_reducible refine Ext.setCell ?_ (by first | omega | (simp; done) | (simp; omega)) _))), Lib.hid (HB.out.ext (by repeat (first | with_reducible exact Ext.refl _ | with_reducible refine Ext.drew ?_ | with_reducible refine Ext.drewN ?_ _ | with_reducible refine Ext.alloc ?_ _ | with_reducible refine Ext.setCell ?_ (by first | omega | (simp; done) | (simp; omega)) _))), Lib.hid (by repeat (first | with_reducible exact X12.out | with_reducible refine Ext.drew ?_ | with_reducible refine Ext.drewN ?_ _ | with_reducible refine Ext.alloc ?_ _ | with_reducible refine Ext.setCell ?_ (by first | omega | (simp; done) | (simp; omega)) _))⟩
theorem QueueTakes_any (A : Option Addr) (c : Nat) (l : List (Int × Int × Int × Int × Int × Int × Int × Int)) (v : Int) (_ : Fits .i64 v) (h : Int) (hh : Fits .i64 h) (p : Int) (hp : Fits .u64 p) (q : Int) (hq : Fits .u64 q) (w : World) (hs : Sl w 8 A l.length c (l.flatMap entC)) (hw : ∀ x ∈ l, FitsQ x) (hnil : A = none → c = 0) :
    Calls Try.prog 8 #[.slice A l.length c, .int .i64 v, .int .i64 h, .int .u64 p, .int .u64 q] w fun r w' => r = .returned (.bool true) ∧ Ext w w' := by
  obtain ⟨e1, e2⟩ : ∃ e : Int × Int, e = chkQ l := ⟨_, rfl⟩
  have hp' := word_fits hp
  have hq' := word_fits hq
  have hh' : h ≤ 9223372036854775807 := by
    unfold Fits at hh
    simp [Lit.wf, IntKind.min, IntKind.max, IntKind.bits, IntKind.signed] at hh
    omega
  by_cases h0 : (chkQ l).1 = 0
  · by_cases hl : l.length ≤ 40
    · obtain ⟨p1, hp1⟩ : ∃ p1, p % 1000000001 = p1 := ⟨_, rfl⟩
      have m1 := mod_in (x := p) (d := 1000000001) hp'.1 (by decide)
      rw [hp1] at m1
      obtain ⟨q1, hq1⟩ : ∃ q1, q % (1000000000 - p1 + 1) = q1 := ⟨_, rfl⟩
      have m2 := mod_in (x := q) (d := 1000000000 - p1 + 1) hq'.1 (by omega)
      rw [hq1] at m2
      by_cases hv : 0 ≤ v ∧ v < 32 ∧ 1 ≤ h ∧ h ≤ 4294967296
      · have c1 := cutV_ok (p := p1) h0 (by omega) hv
        have hc2 := chkQ_cut (v := v) (h := h) (p := p1) (by omega) (by omega) hw h0
        have c2 := cutV_ok (l := l.map (cutF v h p1)) (p := q1) hc2 (by omega) hv
        have c3 := cutV_ok (p := p1 + q1) h0 (by omega) hv
        refine QueueTakes_main A l.length c l v h p q (chkQ l).1 (chkQ l).2 w hs hw rfl hnil h0 hl hh' p1 q1 hp1 hq1 hp'.1 hq'.1 (by omega) (by omega) (by omega) (by omega) (cutS l v h p1 l.length).length _ _ _ _ _ _ _ _ _ c1.symm c2.symm c3.symm (by rw [List.length_map]) rfl (by rw [List.length_map, List.length_map]) (by rw [List.length_map]) rfl ?_ ?_ ?_ rfl rfl ?_ (chkQ_parts2 h0).2.2
        · intro x hx
          obtain ⟨y, hy, rfl⟩ := List.mem_map.1 hx
          exact cutF_fits (hw y hy) (by omega) (by omega)
        · intro k x hx
          rw [List.getElem?_map, hx]
          rfl
        · intro k x hk hx hb
          exact cutS_at hk hx hb
        · intro k y z hy hz
          rw [List.getElem?_map, List.getElem?_map] at hy
          rw [List.getElem?_map] at hz
          rcases e : l[k]? with _ | x
          · rw [e] at hy; cases hy
          · rw [e] at hy hz
            obtain rfl := Option.some.inj hy
            obtain rfl := Option.some.inj hz
            exact cutF_two (hw x (List.mem_of_getElem? e)) (by omega) (by omega) (by omega)
      · exact QueueTakes_no A l.length c l v h p q (chkQ l).1 (chkQ l).2 w hs hw rfl hnil h0 hl hh' p1 q1 hp1 hq1 hp'.1 hq'.1 (by omega) (by omega) (by omega) (by omega) hv (cutV_no h0 (by omega) hv).symm
    · exact QueueTakes_long A l.length c l v h p q (chkQ l).1 (chkQ l).2 w hs hw rfl h0 hl
  · exact QueueTakes_chk A l.length c l v h p q (chkQ l).1 (chkQ l).2 w hs hw rfl h0
end
section
open Go.RowKit
theorem addG_zero {e1 most e b i lv n s : Int} (h : addG e1 most e b i lv n s = 0) : e1 = 0 ∧ 1 ≤ most ∧ most ≤ 16 ∧ e = 0 ∧ b = i ∧ lv < most ∧ n < 32768 ∧ b ≤ 4611686018427387904 - s := by
  unfold addG at h
  repeat' split at h
  all_goals first | omega | (refine ⟨?_, ?_, ?_, ?_, ?_, ?_, ?_, ?_⟩ <;> omega)
theorem chkQ_add {l : List (Int × Int × Int × Int × Int × Int × Int × Int)} {x : (Int × Int × Int × Int × Int × Int × Int × Int)} {most : Int} (h : adE l x most = 0) : (chkQ (l ++ [x])).1 = 0 ∧ (liveQ (l ++ [x]) x.1 x.2.1 : Int) ≤ most := by
  obtain ⟨h1, h2, h3, h4, h5, h6, h7, h8⟩ := addG_zero h
  obtain ⟨c1, c2, c3⟩ := chkQ_parts h1
  refine ⟨?_, ?_⟩
  · rw [chkQ_mk (by rw [List.length_append]; simp only [List.length_singleton]; omega) (chkGo_snoc c2 h4) (by rw [totB_app]; show totB l + (baE x + 0) ≤ _; omega)]
  · unfold liveQ at h6 ⊢
    rw [List.countP_append]
    simp
    omega
theorem addQ_ok {l : List (Int × Int × Int × Int × Int × Int × Int × Int)} {x : (Int × Int × Int × Int × Int × Int × Int × Int)} {most : Int} (h : adE l x most = 0) : addQ l x most = (l ++ [x], 0) := by unfold addQ; rw [if_pos h]
theorem addQ_no {l : List (Int × Int × Int × Int × Int × Int × Int × Int)} {x : (Int × Int × Int × Int × Int × Int × Int × Int)} {most : Int} (h : adE l x most ≠ 0) : addQ l x most = ([], adE l x most) := by unfold addQ; rw [if_neg h]
theorem chkGo_weak : ∀ {l : List (Int × Int × Int × Int × Int × Int × Int × Int)} {a b : Int} {k k' : Nat}, (chkGo a k l).1 = 0 → b ≤ a → (chkGo b k' l).1 = 0
  | [], _, _, _, _, _, _ => rfl
  | x :: l, a, b, k, k', h, hb => by
    unfold chkGo at h ⊢
    by_cases hx : oneQ x a = 0
    · rw [if_neg (by simpa using hx)] at h
      have hx2 : oneQ x b = 0 := by
        obtain ⟨r1, r2, r3, r4, r5, r6, r7, r8, r9⟩ := oneQ_cases hx
        show oneG x.1 (chkS x.2.1 x.2.2.1 x.2.2.2.1 x.2.2.2.2.1) (crE x) x.2.2.1 b x.2.2.2.2.2.2.1 (baE x) = 0
        unfold oneG
        rw [if_neg (by omega), if_neg (by omega), if_neg (by simpa using r3), if_neg (by omega), if_neg (by omega), if_neg (by omega), if_neg (by omega), if_neg (by omega), if_neg (by omega)]
      rw [if_neg (by simpa using hx2)]
      exact chkGo_weak h (Int.le_refl _)
    · rw [if_pos hx] at h
      exact absurd h hx
theorem chkGo_take : ∀ {l : List (Int × Int × Int × Int × Int × Int × Int × Int)} {a : Int} {k : Nat} (m : Nat), (chkGo a k l).1 = 0 → (chkGo a k (l.take m)).1 = 0
  | [], _, _, m, _ => by simp [chkGo]
  | x :: l, a, k, 0, _ => rfl
  | x :: l, a, k, m + 1, h => by
    rw [List.take_succ_cons]
    unfold chkGo at h ⊢
    by_cases hx : oneQ x a = 0
    · rw [if_neg (by simpa using hx)] at h ⊢
      exact chkGo_take m h
    · rw [if_pos hx] at h
      exact absurd h hx
theorem lastQ_nonneg {l : List (Int × Int × Int × Int × Int × Int × Int × Int)} (h : (chkGo 0 0 l).1 = 0) (m : Nat) (hm : m ≤ l.length) : 0 ≤ lastQ (l.take m) := by
  cases m with
  | zero => exact Int.le_refl _
  | succ m =>
    obtain ⟨x, hx⟩ : ∃ x, l[m]? = some x := ⟨_, List.getElem?_eq_getElem (show m < l.length from by omega)⟩
    rw [lastQ_take hx]
    have := (chkGo_each h (m + 1) hm).2 m x (by omega) hx
    obtain ⟨_, _, _, r4, _⟩ := oneQ_cases this
    omega
theorem chkQ_take {l : List (Int × Int × Int × Int × Int × Int × Int × Int)} (hf : ∀ x ∈ l, FitsQ x) (h : (chkQ l).1 = 0) (m : Nat) : chkQ (l.take m) = (0, 0) := by
  obtain ⟨c1, c2, c3⟩ := chkQ_parts h
  exact chkQ_mk (by rw [List.length_take]; omega) (chkGo_take m c2) (by have := totB_le hf m; omega)
theorem chkQ_drop {l : List (Int × Int × Int × Int × Int × Int × Int × Int)} (hf : ∀ x ∈ l, FitsQ x) (h : (chkQ l).1 = 0) (m : Nat) (hm : m ≤ l.length) : chkQ (l.drop m) = (0, 0) := by
  obtain ⟨c1, c2, c3⟩ := chkQ_parts h
  refine chkQ_mk (by rw [List.length_drop]; omega) (chkGo_weak (chkGo_each c2 m hm).1 (lastQ_nonneg c2 m hm)) ?_
  have h1 := totB_app (l.take m) (l.drop m)
  rw [List.take_append_drop] at h1
  have h2 := totB_nonneg (l := l.take m) (fun x hx => hf x (List.mem_of_mem_take hx))
  omega
/-- what is told of a queue that may be -/
theorem ripQ_ok {l : List (Int × Int × Int × Int × Int × Int × Int × Int)} {h u : Int} (hf : ∀ x ∈ l, FitsQ x) (hc : (chkQ l).1 = 0) (ho : 1 ≤ h ∧ h ≤ 4294967296 ∧ 1 ≤ u ∧ u ≤ 1048576) :
    ∃ m, m ≤ l.length ∧ (l.take m, l.drop m, 0) = ripQ l h u ∧ chkQ (l.take m) = (0, 0) ∧ chkQ (l.drop m) = (0, 0) ∧ ∀ (k : Nat) x, l[k]? = some x → (u ≤ h - crE x ↔ k < m) ∧ 1 ≤ crE x ∧ crE x ≤ 4294967296 := by
  obtain ⟨m, h1, h2, h3, h4⟩ := splitQ_mono (isRip h u) l ((chkQ_sorted hc).imp (fun {a b} hab hb => by unfold isRip at hb ⊢; rw [decide_eq_true_eq] at hb ⊢; omega))
  refine ⟨m, h1, ?_, chkQ_take hf hc m, chkQ_drop hf hc m h1, fun k x hx => ?_⟩
  · have e : ripQE l h u = 0 := by
      obtain ⟨o1, o2, o3, o4⟩ := ho
      unfold ripQE ripG
      rw [if_neg (by simpa using hc), if_neg (by simp; omega), if_neg (by omega), if_neg (by omega)]
    unfold ripQ
    rw [if_pos e, h2, h3]
  · have h5 := h4 k x hx
    unfold isRip at h5
    rw [decide_eq_decide] at h5
    obtain ⟨b, hb⟩ := chkQ_may hc x (List.mem_of_getElem? hx)
    obtain ⟨_, _, _, r4, r5, _⟩ := oneQ_cases hb
    exact ⟨by omega, r4, r5⟩
theorem ripQ_no {l : List (Int × Int × Int × Int × Int × Int × Int × Int)} {h u : Int} (hc : (chkQ l).1 = 0) (ho : ¬ (1 ≤ h ∧ h ≤ 4294967296 ∧ 1 ≤ u ∧ u ≤ 1048576)) : ([], [], 3) = ripQ l h u := by
  have e : ripQE l h u = 3 := by
    unfold ripQE ripG
    rw [if_neg (by simpa using hc)]
    by_cases h1 : 1 ≤ h ∧ h ≤ 4294967296
    · rw [if_neg (by simp; omega)]
      by_cases h2 : u < 1
      · rw [if_pos h2]
      · rw [if_neg h2, if_pos (by omega)]
    · rw [if_pos (by simp; omega)]
  unfold ripQ
  rw [if_neg (by omega), e]
end
section
open Go.RowKit
/-- an operation whose guard says yes, as one without a guard -/
theorem wpList_ungd {P : Program} {ops : Array Oper} {Q : Exit → Act → World → Prop} {a : Act} {w : World} {rest : List Oper} {o : Oper} (hw : Region.wanted o (yielded ops a.tmps) = true) (h : wpList P ops Q ({ o with guard := none } :: rest) a w) : wpList P ops Q (o :: rest) a w := by
  unfold wpList at h ⊢
  rw [if_pos hw]
  rw [if_pos (by simp [Region.wanted])] at h
  exact h
end
section
open Go.RowKit Go.ChangeShapes Go.WideShapes Go.Deep Go.Joins
theorem wr_succ {m M : Nat} (h : M = m + 1) (h2 : m ≤ 40) : (m : Int) + 1 = (M : Int) ∧ m < M ∧ M ≤ 41 ∧ IntKind.i64.wrap (M : Int) = (M : Int) ∧ Go.RowKit.wrap64 (M : Int) = (M : Int) := by
  have e : IntKind.i64.wrap (M : Int) = (M : Int) := IntWalk.i64_in _ (by omega)
  refine ⟨by clear e; omega, by clear e; omega, by clear e; omega, e, ?_⟩
  rw [← IntWalk.i64_left]
  exact e
theorem entR_same (x0 x1 x2 x3 x4 x5 x6 x7 : Int) (w : World) : (binOp .neq 27 (.agg #[.int .i64 x0, .int .i64 x1, .int .i64 x2, .int .i64 x3, .int .i64 x4, .int .i64 x5, .int .u64 x6, .int .u64 x7]) (.agg #[.int .i64 x0, .int .i64 x1, .int .i64 x2, .int .i64 x3, .int .i64 x4, .int .i64 x5, .int .u64 x6, .int .u64 x7])).run Try.prog w = .ok (.bool false) w := by
  have hS : Try.prog.underlying 27 = some (.struct (Try.prog.fieldsOf 27)) := by kernel_rfl
  have hp : Try.prog.stoodInHeld 27 = false := by kernel_rfl
  rw [run_neq_struct, show (10000 : Nat) = 9999 + 1 from rfl, run_equalIn_agg w 9999 27 _ _ hS hp]
  simp only [Program.fieldsOf, Try.underlying27]
  simp [go_sem, entC_eqIn, Op.eqFields]
theorem qadd_evn (A : Option Addr) (n c m : Nat) (l R : List (Int × Int × Int × Int × Int × Int × Int × Int)) (xo xv xs xp xf xc xi xb most er : Int) (w : World) (h : Sl w 8 A n c (l.flatMap entC)) (hn : n ≤ 100000) (hf : ∀ x ∈ l, FitsQ x) (hxb : Word xb) (hxi : Word xi) (hnil : A = none → c = 0) (hv : (R, er) = addQ l (xo, xv, xs, xp, xf, xc, xi, xb) most) (hm : R.length = m) :
    Calls Try.prog 12 #[.slice A n c, .agg #[.int .i64 xo, .int .i64 xv, .int .i64 xs, .int .i64 xp, .int .i64 xf, .int .i64 xc, .int .u64 xi, .int .u64 xb], .int .i64 most] w fun e w' => ∃ A' c', e = .returned (.tuple #[.slice A' m c', .int .i64 er]) ∧ (A' = none → c' = 0) ∧ OwnEnt w' w.heap.size (.slice A' m c') m R ∧ Ext w w' := by
  subst hm
  exact qadd_ev A n c l R xo xv xs xp xf xc xi xb most er w h hn hf hxb hxi hnil hv
theorem qripe_evn (A : Option Addr) (n c n1 n2 : Nat) (l R1 R2 : List (Int × Int × Int × Int × Int × Int × Int × Int)) (h u er : Int) (w : World) (hs : Sl w 8 A n c (l.flatMap entC)) (hn : n ≤ 100000) (hf : ∀ x ∈ l, FitsQ x) (hnil : A = none → c = 0) (hv : (R1, R2, er) = ripQ l h u) (h1 : R1.length = n1) (h2 : R2.length = n2) :
    Calls Try.prog 28 #[.slice A n c, .int .i64 h, .int .i64 u] w fun e w' => ∃ A1 c1 A2 c2, e = .returned (.tuple #[.slice A1 n1 c1, .slice A2 n2 c2, .int .i64 er]) ∧ Sl w' 8 A1 n1 c1 (R1.flatMap entC) ∧ Sl w' 8 A2 n2 c2 (R2.flatMap entC) ∧ Ext w w' := by
  subst h1; subst h2
  refine (qripe_ev A n c l R1 R2 h u er w hs hn hf hnil hv).mono ?_
  rintro e w' ⟨A1, c1, A2, c2, h1, h2, h3, _, h4⟩
  exact ⟨A1, c1, A2, c2, h1, h2, h3, h4⟩
set_option maxRecDepth 100000 in
set_option maxHeartbeats 4000000 in
theorem QueueRipens_long (A : Option Addr) (c n : Nat) (most h u : Int) (w : World) (hl : ¬ n ≤ 40) (hs : n ≤ 9223372036854775807) :
    Calls Try.prog 7 #[.slice A n c, .int .i64 most, .int .i64 h, .int .i64 u] w fun r w' => r = .returned (.bool true) ∧ Ext w w' := by
  have hMd : (40 : Int) < (n : Int) := by omega
  go_enter Try.func7, Try.ntmps7
  go_wp2_with fail
  (with_reducible refine (QueueKnown_any _).mono ?_)
  rintro e w1 ⟨rfl, hx1⟩
  have z1 := hx1.size
  try simp at z1
  have X1 : Hid (Ext w w1) := Lib.hid (Ext.trans (by repeat (first | with_reducible exact Ext.refl w | with_reducible refine Ext.drew ?_ | with_reducible refine Ext.drewN ?_ _ | with_reducible refine Ext.alloc ?_ _ | with_reducible refine Ext.setCell ?_ (by first | omega | (simp; done) | (simp; omega)) _)) hx1)
  clear hx1 z1
  go_wp2_with fail
  go_ret
  exact ⟨rfl, (by repeat (first | with_reducible exact X1.out | with_reducible refine Ext.drew ?_ | with_reducible refine Ext.drewN ?_ _ | with_reducible refine Ext.alloc ?_ _ | with_reducible refine Ext.setCell ?_ (by first | omega | (simp; done) | (simp; omega)) _))⟩
set_option maxRecDepth 100000 in
set_option maxHeartbeats 4000000 in
theorem QueueRipens_main (A : Option Addr) (n c : Nat) (l : List (Int × Int × Int × Int × Int × Int × Int × Int)) (most h u : Int) (w : World) (hs : Sl w 8 A n c (l.flatMap entC)) (hf : ∀ x ∈ l, FitsQ x) (hl : n ≤ 40) (hll : l.length = n) (hh : h ≤ 9223372036854775807) (hh2 : -9223372036854775808 ≤ h) :
    Calls Try.prog 7 #[.slice A n c, .int .i64 most, .int .i64 h, .int .i64 u] w fun r w' => r = .returned (.bool true) ∧ Ext w w' := by
  have hMd : ¬ (40 : Int) < (n : Int) := by omega
  have hns := hs.small
  obtain ⟨i0, hi0, hz0, hz1, hz2⟩ := ent_infoP
  have HS := Lib.hid hs
  have HF := Lib.hid hf
  have HLL := Lib.hid hll
  have z3 := entR_same
  have z4 := entC_eqg
  clear hs hf hll
  go_enter Try.func7, Try.ntmps7
  go_wp2_with fail
  (with_reducible refine (QueueKnown_any _).mono ?_)
  rintro e w1 ⟨rfl, hx1⟩
  have z1 := hx1.size
  try simp at z1
  replace HS := Lib.hid (HS.out.ext (Ext.trans (by repeat (first | with_reducible exact Ext.refl _ | with_reducible refine Ext.drew ?_ | with_reducible refine Ext.drewN ?_ _ | with_reducible refine Ext.alloc ?_ _ | with_reducible refine Ext.setCell ?_ (by first | omega | (simp; done) | (simp; omega)) _)) hx1))
  have X1 : Hid (Ext w w1) := Lib.hid (Ext.trans (by repeat (first | with_reducible exact Ext.refl w | with_reducible refine Ext.drew ?_ | with_reducible refine Ext.drewN ?_ _ | with_reducible refine Ext.alloc ?_ _ | with_reducible refine Ext.setCell ?_ (by first | omega | (simp; done) | (simp; omega)) _)) hx1)
  clear hx1 z1
  have HX2 : Hid (Ext w _) := Lib.hid (by repeat (first | with_reducible exact X1.out | with_reducible refine Ext.drew ?_ | with_reducible refine Ext.drewN ?_ _ | with_reducible refine Ext.alloc ?_ _ | with_reducible refine Ext.setCell ?_ (by first | omega | (simp; done) | (simp; omega)) _))
  have HL0 : Hid (Sl w1 8 A n c (l.flatMap entC)) := Lib.hid (HS.out.ext (by repeat (first | with_reducible exact Ext.refl _ | with_reducible refine Ext.drew ?_ | with_reducible refine Ext.drewN ?_ _ | with_reducible refine Ext.alloc ?_ _ | with_reducible refine Ext.setCell ?_ (by first | omega | (simp; done) | (simp; omega)) _)))
  clear HS X1
  go_wp2_with fail
  go_loopg [10, 11] n (fun gh q i wx => gh ≤ n ∧ i = .int .i64 ((n - gh : Nat) : Int) ∧ (∃ (A1 : Option Addr) (m c1 : Nat) (L : List (Int × Int × Int × Int × Int × Int × Int × Int)), q = .slice A1 m c1 ∧ m ≤ n - gh ∧ Hid ((A1 = none → c1 = 0) ∧ L.length = m ∧ (∀ x ∈ L, FitsQ x) ∧ (chkQ L).1 = 0) ∧ Hid (Sl wx 8 A1 m c1 (L.flatMap entC))) ∧ Hid (Sl wx 8 A n c (l.flatMap entC)) ∧ Hid (Ext w wx))
  case atStart => exact ⟨Nat.le_refl _, by simp, ⟨none, 0, 0, [], rfl, Nat.zero_le _, Lib.hid ⟨fun _ => rfl, rfl, (fun x hx => by cases hx), rfl⟩, Lib.hid (Sl.nil _ _)⟩, HL0, HX2⟩
  case round =>
    obtain ⟨hg, hi, ⟨A1, m, c1, L, rfl, hm, HM, HQ⟩, HS, XR⟩ := hrel
    obtain ⟨k, hk⟩ : ∃ k, k = n - gk := ⟨_, rfl⟩
    rw [← hk] at hi hm
    subst hi
    clear HX2 HL0
    by_cases hz : gk = 0
    · have hkn : ¬ (k : Int) < (n : Int) := by omega
      have hm40 : m ≤ 40 := by omega
      clear hg hz hk HS hm
      by_cases ho : 1 ≤ h ∧ h ≤ 4294967296 ∧ 1 ≤ u ∧ u ≤ 1048576
      · obtain ⟨n1, hn1, hv, hc1, hc2, hr⟩ := ripQ_ok HM.out.2.2.1 HM.out.2.2.2 ho
        obtain ⟨n2, hn2⟩ : ∃ n2, n2 = m - n1 := ⟨_, rfl⟩
        have hn3 : n1 ≤ m := by rw [← HM.out.2.1]; exact hn1
        have hn12 : n1 + n2 = m := by omega
        have HN1 : Hid ((L.take n1).length = n1) := Lib.hid (by rw [List.length_take]; have := HM.out.2.1; omega)
        have HN2 : Hid ((L.drop n1).length = n2) := Lib.hid (by rw [List.length_drop]; have := HM.out.2.1; omega)
        have HV := Lib.hid hv
        have HC1 := Lib.hid hc1.symm
        have HC2 := Lib.hid hc2.symm
        have HR := Lib.hid hr
        have HO := Lib.hid ho
        have HF1 : Hid (∀ x ∈ L.take n1, FitsQ x) := Lib.hid (fun x hx => HM.out.2.2.1 x (List.mem_of_mem_take hx))
        have HF2 : Hid (∀ x ∈ L.drop n1, FitsQ x) := Lib.hid (fun x hx => HM.out.2.2.1 x (List.mem_of_mem_drop hx))
        replace HQ := Lib.hid HQ.out.low
        clear hv hc1 hc2 hr ho hn1 hn2
        go_wp2_with fail
        (with_reducible refine (qripe_evn A1 m c1 n1 n2 L (L.take n1) (L.drop n1) h u 0 _ (HQ.out.ext (by repeat (first | with_reducible exact Ext.refl _ | with_reducible refine Ext.drew ?_ | with_reducible refine Ext.drewN ?_ _ | with_reducible refine Ext.alloc ?_ _ | with_reducible refine Ext.setCell ?_ (by first | omega | (simp; done) | (simp; omega)) _))).sl (by omega) HM.out.2.2.1 HM.out.1 HV.out HN1.out HN2.out).mono ?_)
        rintro e w41 ⟨A2, c2, A3, c3, rfl, hO2, hO3, hx41⟩
        have z41 := hx41.size
        try simp at z41
        replace HQ := Lib.hid (HQ.out.ext (Ext.trans (by repeat (first | with_reducible exact Ext.refl _ | with_reducible refine Ext.drew ?_ | with_reducible refine Ext.drewN ?_ _ | with_reducible refine Ext.alloc ?_ _ | with_reducible refine Ext.setCell ?_ (by first | omega | (simp; done) | (simp; omega)) _)) hx41))
        have X41 : Hid (Ext w w41) := Lib.hid (Ext.trans (by repeat (first | with_reducible exact XR.out | with_reducible refine Ext.drew ?_ | with_reducible refine Ext.drewN ?_ _ | with_reducible refine Ext.alloc ?_ _ | with_reducible refine Ext.setCell ?_ (by first | omega | (simp; done) | (simp; omega)) _)) hx41)
        have HA := Lib.hid hO2
        have HB := Lib.hid hO3
        clear XR hx41 hO2 hO3
        go_wp2_with fail
        (with_reducible refine (qcheck_ev A2 n1 c2 (L.take n1) 0 0 _ (HA.out.ext (by repeat (first | with_reducible exact Ext.refl _ | with_reducible refine Ext.drew ?_ | with_reducible refine Ext.drewN ?_ _ | with_reducible refine Ext.alloc ?_ _ | with_reducible refine Ext.setCell ?_ (by first | omega | (simp; done) | (simp; omega)) _))) HF1.out HC1.out).mono ?_)
        rintro e w42 ⟨rfl, hx42⟩
        have z42 := hx42.size
        try simp at z42
        replace HQ := Lib.hid (HQ.out.ext (Ext.trans (by repeat (first | with_reducible exact Ext.refl _ | with_reducible refine Ext.drew ?_ | with_reducible refine Ext.drewN ?_ _ | with_reducible refine Ext.alloc ?_ _ | with_reducible refine Ext.setCell ?_ (by first | omega | (simp; done) | (simp; omega)) _)) hx42))
        replace HA := Lib.hid (HA.out.ext (Ext.trans (by repeat (first | with_reducible exact Ext.refl _ | with_reducible refine Ext.drew ?_ | with_reducible refine Ext.drewN ?_ _ | with_reducible refine Ext.alloc ?_ _ | with_reducible refine Ext.setCell ?_ (by first | omega | (simp; done) | (simp; omega)) _)) hx42))
        replace HB := Lib.hid (HB.out.ext (Ext.trans (by repeat (first | with_reducible exact Ext.refl _ | with_reducible refine Ext.drew ?_ | with_reducible refine Ext.drewN ?_ _ | with_reducible refine Ext.alloc ?_ _ | with_reducible refine Ext.setCell ?_ (by first | omega | (simp; done) | (simp; omega)) _)) hx42))
        have X42 : Hid (Ext w w42) := Lib.hid (Ext.trans (by repeat (first | with_reducible exact X41.out | with_reducible refine Ext.drew ?_ | with_reducible refine Ext.drewN ?_ _ | with_reducible refine Ext.alloc ?_ _ | with_reducible refine Ext.setCell ?_ (by first | omega | (simp; done) | (simp; omega)) _)) hx42)
        clear X41 hx42
        go_wp2_with fail
        (with_reducible refine (qcheck_ev A3 n2 c3 (L.drop n1) 0 0 _ (HB.out.ext (by repeat (first | with_reducible exact Ext.refl _ | with_reducible refine Ext.drew ?_ | with_reducible refine Ext.drewN ?_ _ | with_reducible refine Ext.alloc ?_ _ | with_reducible refine Ext.setCell ?_ (by first | omega | (simp; done) | (simp; omega)) _))) HF2.out HC2.out).mono ?_)
        rintro e w43 ⟨rfl, hx43⟩
        have z43 := hx43.size
        try simp at z43
        replace HQ := Lib.hid (HQ.out.ext (Ext.trans (by repeat (first | with_reducible exact Ext.refl _ | with_reducible refine Ext.drew ?_ | with_reducible refine Ext.drewN ?_ _ | with_reducible refine Ext.alloc ?_ _ | with_reducible refine Ext.setCell ?_ (by first | omega | (simp; done) | (simp; omega)) _)) hx43))
        replace HA := Lib.hid (HA.out.ext (Ext.trans (by repeat (first | with_reducible exact Ext.refl _ | with_reducible refine Ext.drew ?_ | with_reducible refine Ext.drewN ?_ _ | with_reducible refine Ext.alloc ?_ _ | with_reducible refine Ext.setCell ?_ (by first | omega | (simp; done) | (simp; omega)) _)) hx43))
        replace HB := Lib.hid (HB.out.ext (Ext.trans (by repeat (first | with_reducible exact Ext.refl _ | with_reducible refine Ext.drew ?_ | with_reducible refine Ext.drewN ?_ _ | with_reducible refine Ext.alloc ?_ _ | with_reducible refine Ext.setCell ?_ (by first | omega | (simp; done) | (simp; omega)) _)) hx43))
        have X43 : Hid (Ext w w43) := Lib.hid (Ext.trans (by repeat (first | with_reducible exact X42.out | with_reducible refine Ext.drew ?_ | with_reducible refine Ext.drewN ?_ _ | with_reducible refine Ext.alloc ?_ _ | with_reducible refine Ext.setCell ?_ (by first | omega | (simp; done) | (simp; omega)) _)) hx43)
        clear X42 hx43
        go_wp2_with fail
        have hlow : w.heap.size ≤ w43.heap.size := Ext.size X43.out
        have hlowQ : Hid (wr.heap.size ≤ w43.heap.size) := Lib.hid (by omega)
        (with_reducible refine (kCopyEntries_n A2 n1 c2 (L.take n1) _ (HA.out.ext (by repeat (first | with_reducible exact Ext.refl _ | with_reducible refine Ext.drew ?_ | with_reducible refine Ext.drewN ?_ _ | with_reducible refine Ext.alloc ?_ _ | with_reducible refine Ext.setCell ?_ (by first | omega | (simp; done) | (simp; omega)) _))) (by omega)).mono ?_)
        rintro e w44 ⟨A4, c4, rfl, _, hO4, hx44⟩
        have z44 := hx44.size
        try simp at z44
        replace HQ := Lib.hid (HQ.out.ext (Ext.trans (by repeat (first | with_reducible exact Ext.refl _ | with_reducible refine Ext.drew ?_ | with_reducible refine Ext.drewN ?_ _ | with_reducible refine Ext.alloc ?_ _ | with_reducible refine Ext.setCell ?_ (by first | omega | (simp; done) | (simp; omega)) _)) hx44))
        replace HA := Lib.hid (HA.out.ext (Ext.trans (by repeat (first | with_reducible exact Ext.refl _ | with_reducible refine Ext.drew ?_ | with_reducible refine Ext.drewN ?_ _ | with_reducible refine Ext.alloc ?_ _ | with_reducible refine Ext.setCell ?_ (by first | omega | (simp; done) | (simp; omega)) _)) hx44))
        replace HB := Lib.hid (HB.out.ext (Ext.trans (by repeat (first | with_reducible exact Ext.refl _ | with_reducible refine Ext.drew ?_ | with_reducible refine Ext.drewN ?_ _ | with_reducible refine Ext.alloc ?_ _ | with_reducible refine Ext.setCell ?_ (by first | omega | (simp; done) | (simp; omega)) _)) hx44))
        have X44 : Hid (Ext w w44) := Lib.hid (Ext.trans (by repeat (first | with_reducible exact X43.out | with_reducible refine Ext.drew ?_ | with_reducible refine Ext.drewN ?_ _ | with_reducible refine Ext.alloc ?_ _ | with_reducible refine Ext.setCell ?_ (by first | omega | (simp; done) | (simp; omega)) _)) hx44)
        have HC := Lib.hid hO4
        clear X43 hx44 hO4
        have hz3 := Ext.size X44.out
        go_wp2_with (at_builtin; refine wpList_ungd (by first | rfl | (simp [Region.wanted, yielded]; done)) ?_; refine wpList_append_slB _ rfl _ _ 22 rfl w.heap.size 27 i0 (.agg #[.int .i64 0, .int .i64 0, .int .i64 0, .int .i64 0, .int .i64 0, .int .i64 0, .int .u64 0, .int .u64 0]) 8 64 Try.underlying22 hi0 hz0 hz1 hz2 rfl (by decide) (.slice A4 n1 c4) n1 _ (by rfl) (OwnEnt.lower (HC.out.ext (by repeat (first | with_reducible exact Ext.refl _ | with_reducible refine Ext.drew ?_ | with_reducible refine Ext.drewN ?_ _ | with_reducible refine Ext.alloc ?_ _ | with_reducible refine Ext.setCell ?_ (by first | omega | (simp; done) | (simp; omega)) _))) (show w.heap.size ≤ _ from hlow)) A3 n2 c3 ((L.drop n1).flatMap entC) (by rfl) (HB.out.ext (by repeat (first | with_reducible exact Ext.refl _ | with_reducible refine Ext.drew ?_ | with_reducible refine Ext.drewN ?_ _ | with_reducible refine Ext.alloc ?_ _ | with_reducible refine Ext.setCell ?_ (by first | omega | (simp; done) | (simp; omega)) _))) entC_one (by omega) (by decide) (by omega) ?_; intro va45 w45 hown45 hb45 hf45)
        have hlo45 := World.ownsRow.lt HC.out
        obtain ⟨Ar, cr, rfl, hnr45, _⟩ := own_parts2 hown45
        have hro45 : Sl w45 8 (Ar) (n1 + n2) cr (L.flatMap entC) := (by have h := Sl.own hown45; rw [← List.flatMap_append, List.take_append_drop] at h; exact h)
        clear hown45 hnr45 hf45
        have hsz45 := hb45.size
        try simp at hsz45
        have z45 := hb45.size
        try simp at z45
        have X45 : Hid (Ext w w45) := Lib.hid (have hX := (show Ext w _ from (by repeat (first | with_reducible exact X44.out | with_reducible refine Ext.drew ?_ | with_reducible refine Ext.drewN ?_ _ | with_reducible refine Ext.alloc ?_ _ | with_reducible refine Ext.setCell ?_ (by first | omega | (simp; done) | (simp; omega)) _))); Below.trans hX (hb45.below (Ext.size hX) (fun k hk hh => by have h2 := (hlo45 k hh).1; have h3 := hlow; omega)))
        replace HQ := Lib.hid ((HQ.out.ext (by repeat (first | with_reducible exact Ext.refl _ | with_reducible refine Ext.drew ?_ | with_reducible refine Ext.drewN ?_ _ | with_reducible refine Ext.alloc ?_ _ | with_reducible refine Ext.setCell ?_ (by first | omega | (simp; done) | (simp; omega)) _))).but hb45 (fun k hk => by have h2 := (hlo45 k hk).1; have h3 := hlowQ.out; omega))
        have HD := Lib.hid hro45
        clear HC HB HA hsz45 X44 hb45 hro45
        clear hlo45
        go_wp2_with fail
        (with_reducible refine (kSameEntries_eq Ar A1 (n1 + n2) cr m c1 L _ (HD.out.ext (by repeat (first | with_reducible exact Ext.refl _ | with_reducible refine Ext.drew ?_ | with_reducible refine Ext.drewN ?_ _ | with_reducible refine Ext.alloc ?_ _ | with_reducible refine Ext.setCell ?_ (by first | omega | (simp; done) | (simp; omega)) _))) (HQ.out.ext (by repeat (first | with_reducible exact Ext.refl _ | with_reducible refine Ext.drew ?_ | with_reducible refine Ext.drewN ?_ _ | with_reducible refine Ext.alloc ?_ _ | with_reducible refine Ext.setCell ?_ (by first | omega | (simp; done) | (simp; omega)) _))).sl).mono ?_)
        rintro e w46 ⟨rfl, hx46⟩
        have z46 := hx46.size
        try simp at z46
        replace HQ := Lib.hid (HQ.out.ext (Ext.trans (by repeat (first | with_reducible exact Ext.refl _ | with_reducible refine Ext.drew ?_ | with_reducible refine Ext.drewN ?_ _ | with_reducible refine Ext.alloc ?_ _ | with_reducible refine Ext.setCell ?_ (by first | omega | (simp; done) | (simp; omega)) _)) hx46))
        have X46 : Hid (Ext w w46) := Lib.hid (Ext.trans (by repeat (first | with_reducible exact X45.out | with_reducible refine Ext.drew ?_ | with_reducible refine Ext.drewN ?_ _ | with_reducible refine Ext.alloc ?_ _ | with_reducible refine Ext.setCell ?_ (by first | omega | (simp; done) | (simp; omega)) _)) hx46)
        clear HD X45 hx46
        have HX3 : Hid (Ext w _) := Lib.hid (by repeat (first | with_reducible exact X46.out | with_reducible refine Ext.drew ?_ | with_reducible refine Ext.drewN ?_ _ | with_reducible refine Ext.alloc ?_ _ | with_reducible refine Ext.setCell ?_ (by first | omega | (simp; done) | (simp; omega)) _))
        have HC0 : Hid (Sl w46 8 A1 m c1 (L.flatMap entC)) := Lib.hid ((HQ.out.ext (by repeat (first | with_reducible exact Ext.refl _ | with_reducible refine Ext.drew ?_ | with_reducible refine Ext.drewN ?_ _ | with_reducible refine Ext.alloc ?_ _ | with_reducible refine Ext.setCell ?_ (by first | omega | (simp; done) | (simp; omega)) _)))).sl
        clear HQ X46
        go_wp2_with fail
        go_loopg [21] m (fun gh i wx => gh ≤ m ∧ i = .int .i64 ((m - gh : Nat) : Int) ∧ Hid (Sl wx 8 A1 m c1 (L.flatMap entC)) ∧ Hid (Ext w wx))
        case atStart => exact ⟨Nat.le_refl _, by simp, HC0, HX3⟩
        case round =>
          obtain ⟨hg, hi, HC, XR⟩ := hrel
          obtain ⟨j, hj⟩ : ∃ j, j = m - gk := ⟨_, rfl⟩
          rw [← hj] at hi
          subst hi
          clear HX3 HC0
          by_cases hz : gk = 0
          · have hjn : ¬ (j : Int) < (m : Int) := by omega
            clear hg hz hj
            go_wp2_with fail
            go_ret
            exact ⟨rfl, XR.out⟩
          · have hjn : (j : Int) < (m : Int) := by omega
            obtain ⟨yw, hl_y⟩ : ∃ x, L[j]? = some x := ⟨_, List.getElem?_eq_getElem (show j < L.length from by have := HM.out.2.1; omega)⟩
            obtain ⟨b1, o1, rfl, hb1, hc_y⟩ := HC.out.rec_ entC_len (show 0 < m from by omega)
            obtain ⟨hq1, hq2, hq3⟩ := HR.out j yw hl_y
            have y_5 : wr.cell? ⟨b1, o1 + (j * 8 + 5), none⟩ = some (.int .i64 (crE yw)) := hc_y j _ hl_y 5 _ rfl
            rw [← Nat.add_assoc] at y_5
            generalize crE yw = yc at *
            have HK := Lib.hid (And.intro hj (And.intro hg hz))
            obtain ⟨y, hy⟩ : ∃ y, y = h - yc := ⟨_, rfl⟩
            have hwr : IntKind.i64.wrap (h - yc) = y := by rw [hy]; exact IntWalk.i64_in _ (by have := HO.out; omega)
            have hwr2 : Go.RowKit.wrap64 (h - yc) = y := by rw [← IntWalk.i64_left]; exact hwr
            rw [← hy] at hq1
            clear hj hg hz hl_y hc_y hy
            by_cases hb : j < n1
            · have d1 : decide ((j : Int) < (n1 : Int)) = true := decide_eq_true (by omega)
              have d1' : decide (j < n1) = true := decide_eq_true hb
              have d2 : decide (u ≤ y) = true := decide_eq_true (hq1.2 hb)
              clear hq1 hb
              go_wp2_with fail
              go_roundg (gk - 1)
              case measure => have := HK.out; omega
              case rel => exact ⟨by have := HK.out; omega, num_eq (by have := HK.out; omega), Lib.hid (HC.out.ext (by repeat (first | with_reducible exact Ext.refl _ | with_reducible refine Ext.drew ?_ | with_reducible refine Ext.drewN ?_ _ | with_reducible refine Ext.alloc ?_ _ | with_reducible refine Ext.setCell ?_ (by first | omega | (simp; done) | (simp; omega)) _))), Lib.hid (by repeat (first | with_reducible exact XR.out | with_reducible refine Ext.drew ?_ | with_reducible refine Ext.drewN ?_ _ | with_reducible refine Ext.alloc ?_ _ | with_reducible refine Ext.setCell ?_ (by first | omega | (simp; done) | (simp; omega)) _))⟩
            · have d1 : decide ((j : Int) < (n1 : Int)) = false := decide_eq_false (by omega)
              have d1' : decide (j < n1) = false := decide_eq_false hb
              have d2 : decide (u ≤ y) = false := decide_eq_false (fun h => hb (hq1.1 h))
              clear hq1 hb
              go_wp2_with fail
              go_roundg (gk - 1)
              case measure => have := HK.out; omega
              case rel => exact ⟨by have := HK.out; omega, num_eq (by have := HK.out; omega), Lib.hid (HC.out.ext (by repeat (first | with_reducible exact Ext.refl _ | with_reducible refine Ext.drew ?_ | with_reducible refine Ext.drewN ?_ _ | with_reducible refine Ext.alloc ?_ _ | with_reducible refine Ext.setCell ?_ (by first | omega | (simp; done) | (simp; omega)) _))), Lib.hid (by repeat (first | with_reducible exact XR.out | with_reducible refine Ext.drew ?_ | with_reducible refine Ext.drewN ?_ _ | with_reducible refine Ext.alloc ?_ _ | with_reducible refine Ext.setCell ?_ (by first | omega | (simp; done) | (simp; omega)) _))⟩
      · have HV : Hid (([], [], (3 : Int)) = ripQ L h u) := Lib.hid (ripQ_no HM.out.2.2.2 ho)
        have HNO := Lib.hid ho
        clear ho
        go_wp2_with fail
        (with_reducible refine (qripe_evn A1 m c1 0 0 L [] [] h u 3 _ (HQ.out.ext (by repeat (first | with_reducible exact Ext.refl _ | with_reducible refine Ext.drew ?_ | with_reducible refine Ext.drewN ?_ _ | with_reducible refine Ext.alloc ?_ _ | with_reducible refine Ext.setCell ?_ (by first | omega | (simp; done) | (simp; omega)) _))) (by omega) HM.out.2.2.1 HM.out.1 HV.out rfl rfl).mono ?_)
        rintro e w41 ⟨A2, c2, A3, c3, rfl, _, _, hx41⟩
        have z41 := hx41.size
        try simp at z41
        replace HQ := Lib.hid (HQ.out.ext (Ext.trans (by repeat (first | with_reducible exact Ext.refl _ | with_reducible refine Ext.drew ?_ | with_reducible refine Ext.drewN ?_ _ | with_reducible refine Ext.alloc ?_ _ | with_reducible refine Ext.setCell ?_ (by first | omega | (simp; done) | (simp; omega)) _)) hx41))
        have X41 : Hid (Ext w w41) := Lib.hid (Ext.trans (by repeat (first | with_reducible exact XR.out | with_reducible refine Ext.drew ?_ | with_reducible refine Ext.drewN ?_ _ | with_reducible refine Ext.alloc ?_ _ | with_reducible refine Ext.setCell ?_ (by first | omega | (simp; done) | (simp; omega)) _)) hx41)
        clear XR hx41 z41
        by_cases q2 : h < 1
        · have d2 : decide (h < 1) = true := decide_eq_true q2
          have Q2 := Lib.hid q2
          clear q2
          go_wp2_with fail
          go_ret
          exact ⟨rfl, (by repeat (first | with_reducible exact X41.out | with_reducible refine Ext.drew ?_ | with_reducible refine Ext.drewN ?_ _ | with_reducible refine Ext.alloc ?_ _ | with_reducible refine Ext.setCell ?_ (by first | omega | (simp; done) | (simp; omega)) _))⟩
        · have d2 : decide (h < 1) = false := decide_eq_false q2
          have Q2 := Lib.hid q2
          clear q2
          by_cases q3 : 4294967296 < h
          · have d3 : decide (4294967296 < h) = true := decide_eq_true q3
            have Q3 := Lib.hid q3
            clear q3
            go_wp2_with fail
            go_ret
            exact ⟨rfl, (by repeat (first | with_reducible exact X41.out | with_reducible refine Ext.drew ?_ | with_reducible refine Ext.drewN ?_ _ | with_reducible refine Ext.alloc ?_ _ | with_reducible refine Ext.setCell ?_ (by first | omega | (simp; done) | (simp; omega)) _))⟩
          · have d3 : decide (4294967296 < h) = false := decide_eq_false q3
            have Q3 := Lib.hid q3
            clear q3
            by_cases q5 : u < 1
            · have d5 : decide (u < 1) = true := decide_eq_true q5
              have Q5 := Lib.hid q5
              clear q5
              go_wp2_with fail
              go_ret
              exact ⟨rfl, (by repeat (first | with_reducible exact X41.out | with_reducible refine Ext.drew ?_ | with_reducible refine Ext.drewN ?_ _ | with_reducible refine Ext.alloc ?_ _ | with_reducible refine Ext.setCell ?_ (by first | omega | (simp; done) | (simp; omega)) _))⟩
            · have d5 : decide (u < 1) = false := decide_eq_false q5
              have Q5 := Lib.hid q5
              clear q5
              have d6 : decide (1048576 < u) = true := decide_eq_true (by have := HNO.out; have := Q2.out; have := Q3.out; have := Q5.out; omega)
              go_wp2_with fail
              go_ret
              exact ⟨rfl, (by repeat (first | with_reducible exact X41.out | with_reducible refine Ext.drew ?_ | with_reducible refine Ext.drewN ?_ _ | with_reducible refine Ext.alloc ?_ _ | with_reducible refine Ext.setCell ?_ (by first | omega | (simp; done) | (simp; omega)) _))⟩
    · have hkn : (k : Int) < (n : Int) := by omega
      have hm40 : m ≤ 40 := by omega
      obtain ⟨xw, hl_x⟩ : ∃ x, l[k]? = some x := ⟨_, List.getElem?_eq_getElem (show k < l.length from by have := HLL.out; omega)⟩
      obtain ⟨b1, o1, rfl, hb1, hc_x⟩ := HS.out.rec_ entC_len (show 0 < n from by omega)
      have x_0 := hc_x k xw hl_x 0 _ rfl
      have x_1 := hc_x k xw hl_x 1 _ rfl
      have x_2 := hc_x k xw hl_x 2 _ rfl
      have x_3 := hc_x k xw hl_x 3 _ rfl
      have x_4 := hc_x k xw hl_x 4 _ rfl
      have x_5 := hc_x k xw hl_x 5 _ rfl
      have x_6 := hc_x k xw hl_x 6 _ rfl
      have x_7 := hc_x k xw hl_x 7 _ rfl
      have hfx := HF.out _ (List.mem_of_getElem? hl_x)
      have hx1 := hfx.2.2.2.2.2.2.1
      have hx2 := hfx.2.2.2.2.2.2.2
      obtain ⟨xo, xv, xs, xp, xf, xc, xi, xb⟩ := xw
      have HX1 : Hid (Word xi) := Lib.hid hx1
      have HX2 : Hid (Word xb) := Lib.hid hx2
      have HFX := Lib.hid hfx
      have HK := Lib.hid (And.intro hk (And.intro hg (And.intro hz hm)))
      simp only at x_0 x_1 x_2 x_3 x_4 x_5 x_6 x_7
      rw [Nat.add_zero] at x_0
      rw [← Nat.add_assoc] at x_1 x_2 x_3 x_4 x_5 x_6 x_7
      clear hk hg hz hl_x hc_x hfx hx1 hx2 hm
      by_cases e1 : adE L (xo, xv, xs, xp, xf, xc, xi, xb) most = 0
      · have HV : Hid ((L ++ [(xo, xv, xs, xp, xf, xc, xi, xb)], (0 : Int)) = addQ L (xo, xv, xs, xp, xf, xc, xi, xb) most) := Lib.hid (addQ_ok e1).symm
        have hlv := (chkQ_add e1).2
        have HM2 : Hid ((∀ x ∈ L ++ [(xo, xv, xs, xp, xf, xc, xi, xb)], FitsQ x) ∧ (chkQ (L ++ [(xo, xv, xs, xp, xf, xc, xi, xb)])).1 = 0) := Lib.hid ⟨fun y hy => by rcases List.mem_append.1 hy with hy | hy; exact HM.out.2.2.1 y hy; rw [List.mem_singleton.1 hy]; exact HFX.out, (chkQ_add e1).1⟩
        obtain ⟨lv, hlv2⟩ : ∃ lv : Int, ((liveQ (L ++ [(xo, xv, xs, xp, xf, xc, xi, xb)]) xo xv : Nat) : Int) = lv := ⟨_, rfl⟩
        have hlt : decide (most < lv) = false := decide_eq_false (by change ((liveQ (L ++ [(xo, xv, xs, xp, xf, xc, xi, xb)]) xo xv : Nat) : Int) ≤ most at hlv; omega)
        have HLV := Lib.hid hlv2
        obtain ⟨M, hM⟩ : ∃ M, M = m + 1 := ⟨_, rfl⟩
        have HMM := Lib.hid hM
        obtain ⟨e47, hmM, hmM2, e46, e45⟩ := wr_succ hM hm40
        have HEE := Lib.hid (And.intro e46 e45)
        clear e46 e45
        have hM5 : M ≤ 100000 := by omega
        clear e1 hlv hlv2 hM
        go_wp2_with fail
        (with_reducible refine (qadd_evn A1 m c1 M L (L ++ [(xo, xv, xs, xp, xf, xc, xi, xb)]) xo xv xs xp xf xc xi xb most 0 _ (HQ.out.ext (by repeat (first | with_reducible exact Ext.refl _ | with_reducible refine Ext.drew ?_ | with_reducible refine Ext.drewN ?_ _ | with_reducible refine Ext.alloc ?_ _ | with_reducible refine Ext.setCell ?_ (by first | omega | (simp; done) | (simp; omega)) _))) (by omega) HM.out.2.2.1 HX2.out HX1.out HM.out.1 HV.out (by rw [List.length_append, HM.out.2.1, List.length_singleton]; exact HMM.out.symm)).mono ?_)
        rintro e w11 ⟨A2, c2, rfl, hn2, hO2, hx11⟩
        replace x_0 : w11.cell? ⟨b1, o1 + k * 8, none⟩ = some (.int .i64 xo) := hx11.has (by first | exact x_0 | (simp [go_sem, World.cell?_alloc_past, x_0, x_1, x_2, x_3, x_4, x_5, x_6, x_7]; done))
        replace x_1 : w11.cell? ⟨b1, o1 + k * 8 + 1, none⟩ = some (.int .i64 xv) := hx11.has (by first | exact x_1 | (simp [go_sem, World.cell?_alloc_past, x_0, x_1, x_2, x_3, x_4, x_5, x_6, x_7]; done))
        replace x_2 : w11.cell? ⟨b1, o1 + k * 8 + 2, none⟩ = some (.int .i64 xs) := hx11.has (by first | exact x_2 | (simp [go_sem, World.cell?_alloc_past, x_0, x_1, x_2, x_3, x_4, x_5, x_6, x_7]; done))
        replace x_3 : w11.cell? ⟨b1, o1 + k * 8 + 3, none⟩ = some (.int .i64 xp) := hx11.has (by first | exact x_3 | (simp [go_sem, World.cell?_alloc_past, x_0, x_1, x_2, x_3, x_4, x_5, x_6, x_7]; done))
        replace x_4 : w11.cell? ⟨b1, o1 + k * 8 + 4, none⟩ = some (.int .i64 xf) := hx11.has (by first | exact x_4 | (simp [go_sem, World.cell?_alloc_past, x_0, x_1, x_2, x_3, x_4, x_5, x_6, x_7]; done))
        replace x_5 : w11.cell? ⟨b1, o1 + k * 8 + 5, none⟩ = some (.int .i64 xc) := hx11.has (by first | exact x_5 | (simp [go_sem, World.cell?_alloc_past, x_0, x_1, x_2, x_3, x_4, x_5, x_6, x_7]; done))
        replace x_6 : w11.cell? ⟨b1, o1 + k * 8 + 6, none⟩ = some (.int .u64 xi) := hx11.has (by first | exact x_6 | (simp [go_sem, World.cell?_alloc_past, x_0, x_1, x_2, x_3, x_4, x_5, x_6, x_7]; done))
        replace x_7 : w11.cell? ⟨b1, o1 + k * 8 + 7, none⟩ = some (.int .u64 xb) := hx11.has (by first | exact x_7 | (simp [go_sem, World.cell?_alloc_past, x_0, x_1, x_2, x_3, x_4, x_5, x_6, x_7]; done))
        have z11 := hx11.size
        try simp at z11
        have rx : b1 < w11.heap.size := by omega
        have rxa : b1 < w11.heap.size + 1 := by omega
        have rxb : b1 < w11.heap.size + 1 + 1 := by omega
        have rxc : b1 < w11.heap.size + 1 + 1 + 1 := by omega
        have rxn : ¬ b1 = w11.heap.size := by omega
        replace HS := Lib.hid (HS.out.ext (Ext.trans (by repeat (first | with_reducible exact Ext.refl _ | with_reducible refine Ext.drew ?_ | with_reducible refine Ext.drewN ?_ _ | with_reducible refine Ext.alloc ?_ _ | with_reducible refine Ext.setCell ?_ (by first | omega | (simp; done) | (simp; omega)) _)) hx11))
        replace HQ := Lib.hid (HQ.out.ext (Ext.trans (by repeat (first | with_reducible exact Ext.refl _ | with_reducible refine Ext.drew ?_ | with_reducible refine Ext.drewN ?_ _ | with_reducible refine Ext.alloc ?_ _ | with_reducible refine Ext.setCell ?_ (by first | omega | (simp; done) | (simp; omega)) _)) hx11))
        have X11 : Hid (Ext w w11) := Lib.hid (Ext.trans (by repeat (first | with_reducible exact XR.out | with_reducible refine Ext.drew ?_ | with_reducible refine Ext.drewN ?_ _ | with_reducible refine Ext.alloc ?_ _ | with_reducible refine Ext.setCell ?_ (by first | omega | (simp; done) | (simp; omega)) _)) hx11)
        have HO := Lib.hid hO2
        clear XR hx11 z11 hO2
        have HN2 := Lib.hid hn2
        clear hn2
        have hs2 := OwnEnt.sl HO.out
        obtain ⟨b2, o2, rfl, hb2, hc_y⟩ := hs2.rec_ entC_len (show 0 < M from by omega)
        have hly : (L ++ [(xo, xv, xs, xp, xf, xc, xi, xb)])[m]? = some (xo, xv, xs, xp, xf, xc, xi, xb) := by rw [List.getElem?_append_right (by rw [HM.out.2.1]; exact Nat.le_refl _), HM.out.2.1, Nat.sub_self]; rfl
        have y_0 := hc_y m _ hly 0 _ rfl
        have y_1 := hc_y m _ hly 1 _ rfl
        have y_2 := hc_y m _ hly 2 _ rfl
        have y_3 := hc_y m _ hly 3 _ rfl
        have y_4 := hc_y m _ hly 4 _ rfl
        have y_5 := hc_y m _ hly 5 _ rfl
        have y_6 := hc_y m _ hly 6 _ rfl
        have y_7 := hc_y m _ hly 7 _ rfl
        simp only at y_0 y_1 y_2 y_3 y_4 y_5 y_6 y_7
        rw [Nat.add_zero] at y_0
        rw [← Nat.add_assoc] at y_1 y_2 y_3 y_4 y_5 y_6 y_7
        clear hs2 hc_y hly
        have e46 := HEE.out.1
        have e45 := HEE.out.2
        go_wp2_with fail
        refine wp_region_held_drew (S := fun w' => w'.cell? ⟨b1, o1 + k * 8, none⟩ = some (.int .i64 xo) ∧ w'.cell? ⟨b1, o1 + k * 8 + 1, none⟩ = some (.int .i64 xv) ∧ w'.cell? ⟨b1, o1 + k * 8 + 2, none⟩ = some (.int .i64 xs) ∧ w'.cell? ⟨b1, o1 + k * 8 + 3, none⟩ = some (.int .i64 xp) ∧ w'.cell? ⟨b1, o1 + k * 8 + 4, none⟩ = some (.int .i64 xf) ∧ w'.cell? ⟨b1, o1 + k * 8 + 5, none⟩ = some (.int .i64 xc) ∧ w'.cell? ⟨b1, o1 + k * 8 + 6, none⟩ = some (.int .u64 xi) ∧ w'.cell? ⟨b1, o1 + k * 8 + 7, none⟩ = some (.int .u64 xb) ∧ w'.cell? ⟨b2, o2 + m * 8, none⟩ = some (.int .i64 xo) ∧ w'.cell? ⟨b2, o2 + m * 8 + 1, none⟩ = some (.int .i64 xv) ∧ w'.cell? ⟨b2, o2 + m * 8 + 2, none⟩ = some (.int .i64 xs) ∧ w'.cell? ⟨b2, o2 + m * 8 + 3, none⟩ = some (.int .i64 xp) ∧ w'.cell? ⟨b2, o2 + m * 8 + 4, none⟩ = some (.int .i64 xf) ∧ w'.cell? ⟨b2, o2 + m * 8 + 5, none⟩ = some (.int .i64 xc) ∧ w'.cell? ⟨b2, o2 + m * 8 + 6, none⟩ = some (.int .u64 xi) ∧ w'.cell? ⟨b2, o2 + m * 8 + 7, none⟩ = some (.int .u64 xb)) (by kernel_rfl) (by first | exact ⟨x_0, x_1, x_2, x_3, x_4, x_5, x_6, x_7, y_0, y_1, y_2, y_3, y_4, y_5, y_6, y_7⟩ | (simp [go_sem, World.cell?_alloc_past, x_0, x_1, x_2, x_3, x_4, x_5, x_6, x_7, rx, rxa, rxb, rxc, rxn, y_0, y_1, y_2, y_3, y_4, y_5, y_6, y_7]; done)) (fun hHeld => ?_)
        (refine' take_in 0 rfl (by kernel_rfl) (by kernel_rfl) (by kernel_rfl) (fun _ _ _ h => h) (by rfl) (by assumption) ?_ ?_; rotate_left; focus (intro w hSw; (try dsimp only at hSw); go_simp; try with_reducible rfl)); try simp only [Act.put, List.setIfInBounds_toArray, List.set_cons_zero, List.set_cons_succ]
        (refine' take_in 1 rfl (by kernel_rfl) (by kernel_rfl) (by kernel_rfl) (fun _ _ _ h => h) (by rfl) (by assumption) ?_ ?_; rotate_left; focus (intro w hSw; (try dsimp only at hSw); go_simp; try with_reducible rfl)); try simp only [Act.put, List.setIfInBounds_toArray, List.set_cons_zero, List.set_cons_succ]
        (refine' take_in 2 rfl (by kernel_rfl) (by kernel_rfl) (by kernel_rfl) (fun _ _ _ h => h) (by rfl) (by assumption) ?_ ?_; rotate_left; focus (intro w hSw; (try dsimp only at hSw); go_simp; try with_reducible rfl)); try simp only [Act.put, List.setIfInBounds_toArray, List.set_cons_zero, List.set_cons_succ]
        (refine' take_in 3 rfl (by kernel_rfl) (by kernel_rfl) (by kernel_rfl) (fun _ _ _ h => h) (by rfl) (by assumption) ?_ ?_; rotate_left; focus (intro w hSw; (try dsimp only at hSw); go_simp; try with_reducible rfl)); try simp only [Act.put, List.setIfInBounds_toArray, List.set_cons_zero, List.set_cons_succ]
        (refine' take_in 4 rfl (by kernel_rfl) (by kernel_rfl) (by kernel_rfl) (fun _ _ _ h => h) (by rfl) (by assumption) ?_ ?_; rotate_left; focus (intro w hSw; (try dsimp only at hSw); go_simp; try with_reducible rfl)); try simp only [Act.put, List.setIfInBounds_toArray, List.set_cons_zero, List.set_cons_succ]
        (refine' take_in 5 rfl (by kernel_rfl) (by kernel_rfl) (by kernel_rfl) (fun _ _ _ h => h) (by rfl) (by assumption) ?_ ?_; rotate_left; focus (intro w hSw; (try dsimp only at hSw); go_simp; try with_reducible rfl)); try simp only [Act.put, List.setIfInBounds_toArray, List.set_cons_zero, List.set_cons_succ]
        (refine' take_in 6 rfl (by kernel_rfl) (by kernel_rfl) (by kernel_rfl) (fun _ _ _ h => h) (by rfl) (by assumption) ?_ ?_; rotate_left; focus (intro w hSw; (try dsimp only at hSw); go_simp; try with_reducible rfl)); try simp only [Act.put, List.setIfInBounds_toArray, List.set_cons_zero, List.set_cons_succ]
        (refine' take_in 7 rfl (by kernel_rfl) (by kernel_rfl) (by kernel_rfl) (fun _ _ _ h => h) (by rfl) (by assumption) ?_ ?_; rotate_left; focus (intro w hSw; (try dsimp only at hSw); go_simp; try with_reducible rfl)); try simp only [Act.put, List.setIfInBounds_toArray, List.set_cons_zero, List.set_cons_succ]
        (refine' take_in 8 rfl (by kernel_rfl) (by kernel_rfl) (by kernel_rfl) (fun _ _ _ h => h) (by rfl) (by assumption) ?_ ?_; rotate_left; focus (intro w hSw; (try dsimp only at hSw); go_simp; try with_reducible rfl)); try simp only [Act.put, List.setIfInBounds_toArray, List.set_cons_zero, List.set_cons_succ]
        (refine' take_in 9 rfl (by kernel_rfl) (by kernel_rfl) (by kernel_rfl) (fun _ _ _ h => h) (by rfl) (by assumption) ?_ ?_; rotate_left; focus (intro w hSw; (try dsimp only at hSw); go_simp; try with_reducible rfl)); try simp only [Act.put, List.setIfInBounds_toArray, List.set_cons_zero, List.set_cons_succ]
        (refine' take_in 10 rfl (by kernel_rfl) (by kernel_rfl) (by kernel_rfl) (fun _ _ _ h => h) (by rfl) (by assumption) ?_ ?_; rotate_left; focus (intro w hSw; (try dsimp only at hSw); go_simp; try with_reducible rfl)); try simp only [Act.put, List.setIfInBounds_toArray, List.set_cons_zero, List.set_cons_succ]
        (refine' take_in 11 rfl (by kernel_rfl) (by kernel_rfl) (by kernel_rfl) (fun _ _ _ h => h) (by rfl) (by assumption) ?_ ?_; rotate_left; focus (intro w hSw; (try dsimp only at hSw); go_simp; try with_reducible rfl)); try simp only [Act.put, List.setIfInBounds_toArray, List.set_cons_zero, List.set_cons_succ]
        (refine' take_in 12 rfl (by kernel_rfl) (by kernel_rfl) (by kernel_rfl) (fun _ _ _ h => h) (by rfl) (by assumption) ?_ ?_; rotate_left; focus (intro w hSw; (try dsimp only at hSw); go_simp; try with_reducible rfl)); try simp only [Act.put, List.setIfInBounds_toArray, List.set_cons_zero, List.set_cons_succ]
        (refine' take_in 13 rfl (by kernel_rfl) (by kernel_rfl) (by kernel_rfl) (fun _ _ _ h => h) (by rfl) (by assumption) ?_ ?_; rotate_left; focus (intro w hSw; (try dsimp only at hSw); go_simp; try with_reducible rfl)); try simp only [Act.put, List.setIfInBounds_toArray, List.set_cons_zero, List.set_cons_succ]
        (refine' take_in 14 rfl (by kernel_rfl) (by kernel_rfl) (by kernel_rfl) (fun _ _ _ h => h) (by rfl) (by assumption) ?_ ?_; rotate_left; focus (intro w hSw; (try dsimp only at hSw); go_simp; try with_reducible rfl)); try simp only [Act.put, List.setIfInBounds_toArray, List.set_cons_zero, List.set_cons_succ]
        (refine' take_in 15 rfl (by kernel_rfl) (by kernel_rfl) (by kernel_rfl) (fun _ _ _ h => h) (by rfl) (by assumption) ?_ ?_; rotate_left; focus (intro w hSw; (try dsimp only at hSw); go_simp; try with_reducible rfl)); try simp only [Act.put, List.setIfInBounds_toArray, List.set_cons_zero, List.set_cons_succ]
        (refine' take_in 16 rfl (by kernel_rfl) (by kernel_rfl) (by kernel_rfl) (fun _ _ _ h => h) (by rfl) (by assumption) ?_ ?_; rotate_left; focus (intro w hSw; (try dsimp only at hSw); go_simp; try with_reducible rfl)); try simp only [Act.put, List.setIfInBounds_toArray, List.set_cons_zero, List.set_cons_succ]
        (refine' take_in 17 rfl (by kernel_rfl) (by kernel_rfl) (by kernel_rfl) (fun _ _ _ h => h) (by rfl) (by assumption) ?_ ?_; rotate_left; focus (intro w hSw; (try dsimp only at hSw); go_simp; try with_reducible rfl)); try simp only [Act.put, List.setIfInBounds_toArray, List.set_cons_zero, List.set_cons_succ]
        (refine' take_in 18 rfl (by kernel_rfl) (by kernel_rfl) (by kernel_rfl) (fun _ _ _ h => h) (by rfl) (by assumption) ?_ ?_; rotate_left; focus (intro w hSw; (try dsimp only at hSw); go_simp; try with_reducible rfl)); try simp only [Act.put, List.setIfInBounds_toArray, List.set_cons_zero, List.set_cons_succ]
        (refine' take_in 19 rfl (by kernel_rfl) (by kernel_rfl) (by kernel_rfl) (fun _ _ _ h => h) (by rfl) (by assumption) ?_ ?_; rotate_left; focus (intro w hSw; (try dsimp only at hSw); go_simp; try with_reducible rfl)); try simp only [Act.put, List.setIfInBounds_toArray, List.set_cons_zero, List.set_cons_succ]
        (refine' take_in 20 rfl (by kernel_rfl) (by kernel_rfl) (by kernel_rfl) (fun _ _ _ h => h) (by rfl) (by assumption) ?_ ?_; rotate_left; focus (intro w hSw; (try dsimp only at hSw); go_simp; try with_reducible rfl)); try simp only [Act.put, List.setIfInBounds_toArray, List.set_cons_zero, List.set_cons_succ]
        (refine' take_in 21 rfl (by kernel_rfl) (by kernel_rfl) (by kernel_rfl) (fun _ _ _ h => h) (by rfl) (by assumption) ?_ ?_; rotate_left; focus (intro w hSw; (try dsimp only at hSw); go_simp; try with_reducible rfl)); try simp only [Act.put, List.setIfInBounds_toArray, List.set_cons_zero, List.set_cons_succ]
        (refine' take_in 22 rfl (by kernel_rfl) (by kernel_rfl) (by kernel_rfl) (fun _ _ _ h => h) (by rfl) (by assumption) ?_ ?_; rotate_left; focus (intro w hSw; (try dsimp only at hSw); go_simp; try with_reducible rfl)); try simp only [Act.put, List.setIfInBounds_toArray, List.set_cons_zero, List.set_cons_succ]
        (refine' take_in 23 rfl (by kernel_rfl) (by kernel_rfl) (by kernel_rfl) (fun _ _ _ h => h) (by rfl) (by assumption) ?_ ?_; rotate_left; focus (intro w hSw; (try dsimp only at hSw); go_simp; try with_reducible rfl)); try simp only [Act.put, List.setIfInBounds_toArray, List.set_cons_zero, List.set_cons_succ]
        (refine' take_in 24 rfl (by kernel_rfl) (by kernel_rfl) (by kernel_rfl) (fun _ _ _ h => h) (by rfl) (by assumption) ?_ ?_; rotate_left; focus (intro w hSw; (try dsimp only at hSw); go_simp; try with_reducible rfl)); try simp only [Act.put, List.setIfInBounds_toArray, List.set_cons_zero, List.set_cons_succ]
        (refine' take_in 25 rfl (by kernel_rfl) (by kernel_rfl) (by kernel_rfl) (fun _ _ _ h => h) (by rfl) (by assumption) ?_ ?_; rotate_left; focus (intro w hSw; (try dsimp only at hSw); go_simp; try with_reducible rfl)); try simp only [Act.put, List.setIfInBounds_toArray, List.set_cons_zero, List.set_cons_succ]
        (refine' take_in 26 rfl (by kernel_rfl) (by kernel_rfl) (by kernel_rfl) (fun _ _ _ h => h) (by rfl) (by assumption) ?_ ?_; rotate_left; focus (intro w hSw; (try dsimp only at hSw); go_simp; try with_reducible rfl)); try simp only [Act.put, List.setIfInBounds_toArray, List.set_cons_zero, List.set_cons_succ]
        (refine' take_in 27 rfl (by kernel_rfl) (by kernel_rfl) (by kernel_rfl) (fun _ _ _ h => h) (by rfl) (by assumption) ?_ ?_; rotate_left; focus (intro w hSw; (try dsimp only at hSw); go_simp; try with_reducible rfl)); try simp only [Act.put, List.setIfInBounds_toArray, List.set_cons_zero, List.set_cons_succ]
        (refine' take_in 28 rfl (by kernel_rfl) (by kernel_rfl) (by kernel_rfl) (fun _ _ _ h => h) (by rfl) (by assumption) ?_ ?_; rotate_left; focus (intro w hSw; (try dsimp only at hSw); go_simp; try with_reducible rfl)); try simp only [Act.put, List.setIfInBounds_toArray, List.set_cons_zero, List.set_cons_succ]
        (refine' take_in 29 rfl (by kernel_rfl) (by kernel_rfl) (by kernel_rfl) (fun _ _ _ h => h) (by rfl) (by assumption) ?_ ?_; rotate_left; focus (intro w hSw; (try dsimp only at hSw); go_simp; try with_reducible rfl)); try simp only [Act.put, List.setIfInBounds_toArray, List.set_cons_zero, List.set_cons_succ]
        (refine' take_in 30 rfl (by kernel_rfl) (by kernel_rfl) (by kernel_rfl) (fun _ _ _ h => h) (by rfl) (by assumption) ?_ ?_; rotate_left; focus (intro w hSw; (try dsimp only at hSw); go_simp; try with_reducible rfl)); try simp only [Act.put, List.setIfInBounds_toArray, List.set_cons_zero, List.set_cons_succ]
        (refine' take_in 32 rfl (by kernel_rfl) (by kernel_rfl) (by kernel_rfl) (fun _ _ _ h => h) (by rfl) (by assumption) ?_ ?_; rotate_left; focus (intro w hSw; (try dsimp only at hSw); go_simp; try with_reducible rfl)); try simp only [Act.put, List.setIfInBounds_toArray, List.set_cons_zero, List.set_cons_succ]
        refine' next_in 31 rfl (by kernel_rfl) (by rfl) (fun K hK => ?_)
        go_simp
        (with_reducible refine (qlive_n (some ⟨b2, o2, none⟩) M c2 (L ++ [(xo, xv, xs, xp, xf, xc, xi, xb)]) xo xv lv _ ((HO.out.ext (by repeat (first | with_reducible exact Ext.refl _ | with_reducible refine Ext.drew ?_ | with_reducible refine Ext.drewN ?_ _ | with_reducible refine Ext.alloc ?_ _ | with_reducible refine Ext.setCell ?_ (by first | omega | (simp; done) | (simp; omega)) _)))).sl hM5 HM2.out.1 HLV.out).mono ?_)
        rintro e w12 ⟨rfl, hx12⟩
        replace x_0 : w12.cell? ⟨b1, o1 + k * 8, none⟩ = some (.int .i64 xo) := hx12.has (by first | exact x_0 | (simp [go_sem, World.cell?_alloc_past, x_0, x_1, x_2, x_3, x_4, x_5, x_6, x_7, rx, rxa, rxb, rxc, rxn, y_0, y_1, y_2, y_3, y_4, y_5, y_6, y_7]; done))
        replace x_1 : w12.cell? ⟨b1, o1 + k * 8 + 1, none⟩ = some (.int .i64 xv) := hx12.has (by first | exact x_1 | (simp [go_sem, World.cell?_alloc_past, x_0, x_1, x_2, x_3, x_4, x_5, x_6, x_7, rx, rxa, rxb, rxc, rxn, y_0, y_1, y_2, y_3, y_4, y_5, y_6, y_7]; done))
        replace x_2 : w12.cell? ⟨b1, o1 + k * 8 + 2, none⟩ = some (.int .i64 xs) := hx12.has (by first | exact x_2 | (simp [go_sem, World.cell?_alloc_past, x_0, x_1, x_2, x_3, x_4, x_5, x_6, x_7, rx, rxa, rxb, rxc, rxn, y_0, y_1, y_2, y_3, y_4, y_5, y_6, y_7]; done))
        replace x_3 : w12.cell? ⟨b1, o1 + k * 8 + 3, none⟩ = some (.int .i64 xp) := hx12.has (by first | exact x_3 | (simp [go_sem, World.cell?_alloc_past, x_0, x_1, x_2, x_3, x_4, x_5, x_6, x_7, rx, rxa, rxb, rxc, rxn, y_0, y_1, y_2, y_3, y_4, y_5, y_6, y_7]; done))
        replace x_4 : w12.cell? ⟨b1, o1 + k * 8 + 4, none⟩ = some (.int .i64 xf) := hx12.has (by first | exact x_4 | (simp [go_sem, World.cell?_alloc_past, x_0, x_1, x_2, x_3, x_4, x_5, x_6, x_7, rx, rxa, rxb, rxc, rxn, y_0, y_1, y_2, y_3, y_4, y_5, y_6, y_7]; done))
        replace x_5 : w12.cell? ⟨b1, o1 + k * 8 + 5, none⟩ = some (.int .i64 xc) := hx12.has (by first | exact x_5 | (simp [go_sem, World.cell?_alloc_past, x_0, x_1, x_2, x_3, x_4, x_5, x_6, x_7, rx, rxa, rxb, rxc, rxn, y_0, y_1, y_2, y_3, y_4, y_5, y_6, y_7]; done))
        replace x_6 : w12.cell? ⟨b1, o1 + k * 8 + 6, none⟩ = some (.int .u64 xi) := hx12.has (by first | exact x_6 | (simp [go_sem, World.cell?_alloc_past, x_0, x_1, x_2, x_3, x_4, x_5, x_6, x_7, rx, rxa, rxb, rxc, rxn, y_0, y_1, y_2, y_3, y_4, y_5, y_6, y_7]; done))
        replace x_7 : w12.cell? ⟨b1, o1 + k * 8 + 7, none⟩ = some (.int .u64 xb) := hx12.has (by first | exact x_7 | (simp [go_sem, World.cell?_alloc_past, x_0, x_1, x_2, x_3, x_4, x_5, x_6, x_7, rx, rxa, rxb, rxc, rxn, y_0, y_1, y_2, y_3, y_4, y_5, y_6, y_7]; done))
        replace y_0 : w12.cell? ⟨b2, o2 + m * 8, none⟩ = some (.int .i64 xo) := hx12.has (by first | exact y_0 | (simp [go_sem, World.cell?_alloc_past, x_0, x_1, x_2, x_3, x_4, x_5, x_6, x_7, rx, rxa, rxb, rxc, rxn, y_0, y_1, y_2, y_3, y_4, y_5, y_6, y_7]; done))
        replace y_1 : w12.cell? ⟨b2, o2 + m * 8 + 1, none⟩ = some (.int .i64 xv) := hx12.has (by first | exact y_1 | (simp [go_sem, World.cell?_alloc_past, x_0, x_1, x_2, x_3, x_4, x_5, x_6, x_7, rx, rxa, rxb, rxc, rxn, y_0, y_1, y_2, y_3, y_4, y_5, y_6, y_7]; done))
        replace y_2 : w12.cell? ⟨b2, o2 + m * 8 + 2, none⟩ = some (.int .i64 xs) := hx12.has (by first | exact y_2 | (simp [go_sem, World.cell?_alloc_past, x_0, x_1, x_2, x_3, x_4, x_5, x_6, x_7, rx, rxa, rxb, rxc, rxn, y_0, y_1, y_2, y_3, y_4, y_5, y_6, y_7]; done))
        replace y_3 : w12.cell? ⟨b2, o2 + m * 8 + 3, none⟩ = some (.int .i64 xp) := hx12.has (by first | exact y_3 | (simp [go_sem, World.cell?_alloc_past, x_0, x_1, x_2, x_3, x_4, x_5, x_6, x_7, rx, rxa, rxb, rxc, rxn, y_0, y_1, y_2, y_3, y_4, y_5, y_6, y_7]; done))
        replace y_4 : w12.cell? ⟨b2, o2 + m * 8 + 4, none⟩ = some (.int .i64 xf) := hx12.has (by first | exact y_4 | (simp [go_sem, World.cell?_alloc_past, x_0, x_1, x_2, x_3, x_4, x_5, x_6, x_7, rx, rxa, rxb, rxc, rxn, y_0, y_1, y_2, y_3, y_4, y_5, y_6, y_7]; done))
        replace y_5 : w12.cell? ⟨b2, o2 + m * 8 + 5, none⟩ = some (.int .i64 xc) := hx12.has (by first | exact y_5 | (simp [go_sem, World.cell?_alloc_past, x_0, x_1, x_2, x_3, x_4, x_5, x_6, x_7, rx, rxa, rxb, rxc, rxn, y_0, y_1, y_2, y_3, y_4, y_5, y_6, y_7]; done))
        replace y_6 : w12.cell? ⟨b2, o2 + m * 8 + 6, none⟩ = some (.int .u64 xi) := hx12.has (by first | exact y_6 | (simp [go_sem, World.cell?_alloc_past, x_0, x_1, x_2, x_3, x_4, x_5, x_6, x_7, rx, rxa, rxb, rxc, rxn, y_0, y_1, y_2, y_3, y_4, y_5, y_6, y_7]; done))
        replace y_7 : w12.cell? ⟨b2, o2 + m * 8 + 7, none⟩ = some (.int .u64 xb) := hx12.has (by first | exact y_7 | (simp [go_sem, World.cell?_alloc_past, x_0, x_1, x_2, x_3, x_4, x_5, x_6, x_7, rx, rxa, rxb, rxc, rxn, y_0, y_1, y_2, y_3, y_4, y_5, y_6, y_7]; done))
        have z12 := hx12.size
        try simp at z12
        replace rx : b1 < w12.heap.size := by omega
        replace rxa : b1 < w12.heap.size + 1 := by omega
        replace rxb : b1 < w12.heap.size + 1 + 1 := by omega
        replace rxc : b1 < w12.heap.size + 1 + 1 + 1 := by omega
        replace rxn : ¬ b1 = w12.heap.size := by omega
        have ry : b2 < w12.heap.size := by omega
        have rya : b2 < w12.heap.size + 1 := by omega
        have ryb : b2 < w12.heap.size + 1 + 1 := by omega
        have ryc : b2 < w12.heap.size + 1 + 1 + 1 := by omega
        have ryn : ¬ b2 = w12.heap.size := by omega
        replace HS := Lib.hid (HS.out.ext (Ext.trans (by repeat (first | with_reducible exact Ext.refl _ | with_reducible refine Ext.drew ?_ | with_reducible refine Ext.drewN ?_ _ | with_reducible refine Ext.alloc ?_ _ | with_reducible refine Ext.setCell ?_ (by first | omega | (simp; done) | (simp; omega)) _)) hx12))
        replace HQ := Lib.hid (HQ.out.ext (Ext.trans (by repeat (first | with_reducible exact Ext.refl _ | with_reducible refine Ext.drew ?_ | with_reducible refine Ext.drewN ?_ _ | with_reducible refine Ext.alloc ?_ _ | with_reducible refine Ext.setCell ?_ (by first | omega | (simp; done) | (simp; omega)) _)) hx12))
        replace HO := Lib.hid (HO.out.ext (Ext.trans (by repeat (first | with_reducible exact Ext.refl _ | with_reducible refine Ext.drew ?_ | with_reducible refine Ext.drewN ?_ _ | with_reducible refine Ext.alloc ?_ _ | with_reducible refine Ext.setCell ?_ (by first | omega | (simp; done) | (simp; omega)) _)) hx12))
        have X12 : Hid (Ext w w12) := Lib.hid (Ext.trans (by repeat (first | with_reducible exact X11.out | with_reducible refine Ext.drew ?_ | with_reducible refine Ext.drewN ?_ _ | with_reducible refine Ext.alloc ?_ _ | with_reducible refine Ext.setCell ?_ (by first | omega | (simp; done) | (simp; omega)) _)) hx12)
        clear X11 hx12 z12
        clear e46 e45
        refine hK.out _ _ (by (first | exact ⟨x_0, x_1, x_2, x_3, x_4, x_5, x_6, x_7, y_0, y_1, y_2, y_3, y_4, y_5, y_6, y_7⟩ | (simp [go_sem, World.cell?_alloc_past, x_0, x_1, x_2, x_3, x_4, x_5, x_6, x_7, y_0, y_1, y_2, y_3, y_4, y_5, y_6, y_7, rx, rxa, rxb, rxc, rxn, ry, rya, ryb, ryc, ryn]; done))) (fun hHeld => ?_); clear hK K; try simp only [Act.put, List.setIfInBounds_toArray, List.set_cons_zero, List.set_cons_succ]
        (refine' take_in 33 rfl (by kernel_rfl) (by kernel_rfl) (by kernel_rfl) (fun _ _ _ h => h) (by rfl) (by assumption) ?_ ?_; rotate_left; focus (intro w hSw; (try dsimp only at hSw); go_simp; try with_reducible rfl)); try simp only [Act.put, List.setIfInBounds_toArray, List.set_cons_zero, List.set_cons_succ]
        (refine' take_in 34 rfl (by kernel_rfl) (by kernel_rfl) (by kernel_rfl) (fun _ _ _ h => h) (by rfl) (by assumption) ?_ ?_; rotate_left; focus (intro w hSw; (try dsimp only at hSw); go_simp; try with_reducible rfl)); try simp only [Act.put, List.setIfInBounds_toArray, List.set_cons_zero, List.set_cons_succ]
        refine wpAnyH_done (by kernel_rfl) ?_ _
        go_wp2_with fail
        go_roundg (gk - 1)
        case measure => have := HK.out; omega
        case rel => exact ⟨by have := HK.out; omega, num_eq (by have := HK.out; omega), ⟨some ⟨b2, o2, none⟩, M, c2, L ++ [(xo, xv, xs, xp, xf, xc, xi, xb)], rfl, by have := HK.out; have := HMM.out; omega, Lib.hid ⟨HN2.out, by rw [List.length_append, HM.out.2.1, List.length_singleton]; exact HMM.out.symm, HM2.out.1, HM2.out.2⟩, Lib.hid (((HO.out.ext (by repeat (first | with_reducible exact Ext.refl _ | with_reducible refine Ext.drew ?_ | with_reducible refine Ext.drewN ?_ _ | with_reducible refine Ext.alloc ?_ _ | with_reducible refine Ext.setCell ?_ (by first | omega | (simp; done) | (simp; omega)) _)))).sl)⟩, Lib.hid (HS.out.ext (by repeat (first | with_reducible exact Ext.refl _ | with_reducible refine Ext.drew ?_ | with_reducible refine Ext.drewN ?_ _ | with_reducible refine Ext.alloc ?_ _ | with_reducible refine Ext.setCell ?_ (by first | omega | (simp; done) | (simp; omega)) _))), Lib.hid (by repeat (first | with_reducible exact X12.out | with_reducible refine Ext.drew ?_ | with_reducible refine Ext.drewN ?_ _ | with_reducible refine Ext.alloc ?_ _ | with_reducible refine Ext.setCell ?_ (by first | omega | (simp; done) | (simp; omega)) _))⟩
      · obtain ⟨er, her⟩ : ∃ er, er = adE L (xo, xv, xs, xp, xf, xc, xi, xb) most := ⟨_, rfl⟩
        have HV : Hid (([], er) = addQ L (xo, xv, xs, xp, xf, xc, xi, xb) most) := Lib.hid (by rw [her]; exact (addQ_no e1).symm)
        have e2 : (er == 0) = false := by simpa using (by rw [her]; exact e1 : er ≠ 0)
        clear e1 her
        go_wp2_with fail
        (with_reducible refine (qadd_evn A1 m c1 0 L [] xo xv xs xp xf xc xi xb most er _ (HQ.out.ext (by repeat (first | with_reducible exact Ext.refl _ | with_reducible refine Ext.drew ?_ | with_reducible refine Ext.drewN ?_ _ | with_reducible refine Ext.alloc ?_ _ | with_reducible refine Ext.setCell ?_ (by first | omega | (simp; done) | (simp; omega)) _))) (by omega) HM.out.2.2.1 HX2.out HX1.out HM.out.1 HV.out rfl).mono ?_)
        rintro e w11 ⟨A2, c2, rfl, hn2, hO2, hx11⟩
        have z11 := hx11.size
        try simp at z11
        replace HS := Lib.hid (HS.out.ext (Ext.trans (by repeat (first | with_reducible exact Ext.refl _ | with_reducible refine Ext.drew ?_ | with_reducible refine Ext.drewN ?_ _ | with_reducible refine Ext.alloc ?_ _ | with_reducible refine Ext.setCell ?_ (by first | omega | (simp; done) | (simp; omega)) _)) hx11))
        replace HQ := Lib.hid (HQ.out.ext (Ext.trans (by repeat (first | with_reducible exact Ext.refl _ | with_reducible refine Ext.drew ?_ | with_reducible refine Ext.drewN ?_ _ | with_reducible refine Ext.alloc ?_ _ | with_reducible refine Ext.setCell ?_ (by first | omega | (simp; done) | (simp; omega)) _)) hx11))
        have X11 : Hid (Ext w w11) := Lib.hid (Ext.trans (by repeat (first | with_reducible exact XR.out | with_reducible refine Ext.drew ?_ | with_reducible refine Ext.drewN ?_ _ | with_reducible refine Ext.alloc ?_ _ | with_reducible refine Ext.setCell ?_ (by first | omega | (simp; done) | (simp; omega)) _)) hx11)
        clear x_4 x_2 x_7 x_3 x_6 x_5 x_0 x_1 XR hx11 z11
        clear hn2 hO2
        go_wp2_with fail
        go_roundg (gk - 1)
        case measure => have := HK.out; omega
        case rel => exact ⟨by have := HK.out; omega, num_eq (by have := HK.out; omega), ⟨A1, m, c1, L, rfl, by have := HK.out; omega, HM, Lib.hid (HQ.out.ext (by repeat (first | with_reducible exact Ext.refl _ | with_reducible refine Ext.drew ?_ | with_reducible refine Ext.drewN ?_ _ | with_reducible refine Ext.alloc ?_ _ | with_reducible refine Ext.setCell ?_ (by first | omega | (simp; done) | (simp; omega)) _)))⟩, Lib.hid (HS.out.ext (by repeat (first | with_reducible exact Ext.refl _ | with_reducible refine Ext.drew ?_ | with_reducible refine Ext.drewN ?_ _ | with_reducible refine Ext.alloc ?_ _ | with_reducible refine Ext.setCell ?_ (by first | omega | (simp; done) | (simp; omega)) _))), Lib.hid (by repeat (first | with_reducible exact X11.out | with_reducible refine Ext.drew ?_ | with_reducible refine Ext.drewN ?_ _ | with_reducible refine Ext.alloc ?_ _ | with_reducible refine Ext.setCell ?_ (by first | omega | (simp; done) | (simp; omega)) _))⟩
theorem QueueRipens_any (A : Option Addr) (c : Nat) (l : List (Int × Int × Int × Int × Int × Int × Int × Int)) (most : Int) (_ : Fits .i64 most) (h : Int) (hh : Fits .i64 h) (u : Int) (_ : Fits .i64 u) (w : World) (hs : Sl w 8 A l.length c (l.flatMap entC)) (hw : ∀ x ∈ l, FitsQ x) (hnil : A = none → c = 0) :
    Calls Try.prog 7 #[.slice A l.length c, .int .i64 most, .int .i64 h, .int .i64 u] w fun r w' => r = .returned (.bool true) ∧ Ext w w' := by
  have hh' : h ≤ 9223372036854775807 ∧ -9223372036854775808 ≤ h := by
    unfold Fits at hh
    simp [Lit.wf, IntKind.min, IntKind.max, IntKind.bits, IntKind.signed] at hh
    omega
  by_cases hl : l.length ≤ 40
  · exact QueueRipens_main A l.length c l most h u w hs hw hl rfl hh'.1 hh'.2
  · exact QueueRipens_long A c l.length most h u w hl hs.small
end
end Go.Proofs.Ytnbeejgppooamaa
