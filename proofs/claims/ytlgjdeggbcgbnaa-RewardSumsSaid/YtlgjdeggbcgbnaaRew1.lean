/- reward: what all credits are together: the sums, handed on by a function, and the last of them. Conditions stand in each lemma. -/
import Derived.Test.YtlgjdeggbcgbnaaSeq
import Derived.Test.YtlgjdeggbcgbnaaFixF
import Derived.Test.YtlgjdeggbcgbnaaFixSum
import Derived.Test.YtlgjdeggbcgbnaaCod
import Derived.Test.YtlgjdeggbcgbnaaLow
set_option linter.unusedVariables false
set_option linter.unusedSimpArgs false
namespace Go.Proofs.Ytlgjdeggbcgbnaa
open Go.RowKit Go.Shelf
attribute [local go_sem] Oper.semAt_some

/-- the sums that are handed on, from one on -/
def yl : Int → List Int → List (Int × Int)
  | _, [] => []
  | s, a :: l => if s + a ≤ 4611686018427387904 then (s + a, 0) :: yl (s + a) l else [(0, 12)]
/-- what the last one is -/
def lastV (l : List (Int × Int)) : Int × Int := l.getLast?.getD (0, 0)
/-- what all are together, or that it is too much -/
def totV (l : List Int) : Int × Int := if sumL l ≤ 4611686018427387904 then (sumL l, 0) else (0, 12)
theorem yl_last : ∀ (l : List Int) (s : Int), (∀ x ∈ l, Word x) → l ≠ [] → (yl s l).getLast? = some (if s + sumL l ≤ 4611686018427387904 then (s + sumL l, 0) else (0, 12))
  | [], _, _, h => absurd rfl h
  | [a], s, hw, _ => by
    have : sumL [a] = a := by simp [sumL]
    rw [this]
    unfold yl yl
    split <;> simp
  | a :: b :: l, s, hw, _ => by
    have ih := yl_last (b :: l) (s + a) (fun x hx => hw x (List.mem_cons_of_mem _ hx)) (by simp)
    have hn := sumL_nonneg (l := b :: l) (fun x hx => (hw x (List.mem_cons_of_mem _ hx)).1)
    have e : sumL (a :: b :: l) = a + sumL (b :: l) := rfl
    rw [e]
    have e2 : yl s (a :: b :: l) = if s + a ≤ 4611686018427387904 then (s + a, 0) :: yl (s + a) (b :: l) else [(0, 12)] := rfl
    rw [e2]
    split
    · rw [List.getLast?_cons, ih]
      simp only [Option.getD_some, Int.add_assoc]
    · rw [if_neg (by omega)]
      rfl
theorem lastV_tot {l : List Int} (h : ∀ x ∈ l, Word x) : lastV (yl 0 l) = totV l := by
  by_cases hl : l = []
  · subst hl; rfl
  · unfold lastV totV
    rw [yl_last l 0 h hl]
    simp
theorem lastV_snoc (l : List (Int × Int)) (x : Int × Int) : lastV (l ++ [x]) = x := by unfold lastV; simp
theorem yl_ok {s a : Int} {l : List Int} (h : s + a ≤ 4611686018427387904) : yl s (a :: l) = (s + a, 0) :: yl (s + a) l := by rw [yl, if_pos h]
theorem yl_no {s a : Int} {l : List Int} (h : ¬ s + a ≤ 4611686018427387904) : yl s (a :: l) = [(0, 12)] := by rw [yl, if_neg h]
set_option maxRecDepth 100000 in
theorem fAdd_in (F : Fence) (n : Nat) (hF : F.fn 76) (hA : F.fn 84) (hro : F.round = none) (a b N E : Int) (ha : Word a) (hb : Word b) (hN : N = addN a b) (hE : E = addE a b) (w : World) :
    CallsIn F n Try.prog 76 #[.int .u64 a, .int .u64 b] w fun e w' => e = .returned (.tuple #[.int .u64 N, .int .i64 E]) ∧ Ext w w' := by
  rw [hN, hE]
  obtain ⟨a1, a2⟩ := ha
  obtain ⟨b1, b2⟩ := hb
  by_cases h : a + b < 18446744073709551616
  · have e1 : addN a b = a + b := if_pos h
    have e2 : addE a b = 0 := if_pos h
    rw [e1, e2]
    have d1 : (a + b) / 18446744073709551616 = 0 := by omega
    have d2 : (a + b) % 18446744073709551616 = a + b := by omega
    have qa : ∀ w : World, (callFunc 84 #[.int .u64 a, .int .u64 b, .int .u64 0]).run Try.prog w = .ok (.value (.tuple #[.int .u64 (a + b), .int .u64 0])) w := fun w => by rw [add64_0 a b a1 b1, d1, d2]
    clear e1 e2 d1 d2
    refine callsIn_of_wp Try.func76 rfl hF ?_ hro
    simp only [Try.ntmps76, List.size_toArray, List.length_cons, List.length_nil, Nat.reduceAdd, Nat.reduceSub, Array.replicate_succ, Array.replicate_zero, List.push_toArray, List.append_toArray, List.nil_append, List.cons_append]
    gi_wp2
    go_ret2
    exact ⟨rfl, (by repeat (first | assumption | exact Ext.refl _ | refine Ext.drew ?_ | refine Ext.drewN ?_ _ | refine Ext.alloc ?_ _ | refine Ext.setCell ?_ (by first | omega | (simp; done) | (simp; omega)) _ | refine Ext.trans ?_ (by assumption)))⟩
  · have e1 : addN a b = 0 := if_neg h
    have e2 : addE a b = 12 := if_neg h
    rw [e1, e2]
    have d1 : (a + b) / 18446744073709551616 = 1 := by omega
    have qa : ∀ w : World, (callFunc 84 #[.int .u64 a, .int .u64 b, .int .u64 0]).run Try.prog w = .ok (.value (.tuple #[.int .u64 ((a + b) % 18446744073709551616), .int .u64 1])) w := fun w => by rw [add64_0 a b a1 b1, d1]
    clear e1 e2 d1
    refine callsIn_of_wp Try.func76 rfl hF ?_ hro
    simp only [Try.ntmps76, List.size_toArray, List.length_cons, List.length_nil, Nat.reduceAdd, Nat.reduceSub, Array.replicate_succ, Array.replicate_zero, List.push_toArray, List.append_toArray, List.nil_append, List.cons_append]
    gi_wp2
    go_ret2
    exact ⟨rfl, (by repeat (first | assumption | exact Ext.refl _ | refine Ext.drew ?_ | refine Ext.drewN ?_ _ | refine Ext.alloc ?_ _ | refine Ext.setCell ?_ (by first | omega | (simp; done) | (simp; omega)) _ | refine Ext.trans ?_ (by assumption)))⟩
set_option maxRecDepth 100000 in
set_option maxHeartbeats 2000000 in
theorem sums1_in (F : Fence) (n : Nat) (hF : F.fn 75) (hF2 : F.fn 76) (hF3 : F.fn 84) (hro : F.round = none) (hn : 2 ≤ n) (l nb n0 m c : Nat) (A : Option Addr) (xs : List Int) (J : List (Int × Int) → World → Prop) (W : World) (hw : ∀ x ∈ xs, Word x)
    (hJ : ∀ (s : List (Int × Int)) (A A' : World), J s A → Ext A A' → J s A')
    (hY : ∀ (pre : List (Int × Int)) (x : Int × Int) (A : World), J pre A → pre ++ [x] <+: yl 0 xs → YieldAt F (n - 1) Try.prog l #[.int .u64 x.1, .int .i64 x.2] A fun e A' => e = .returned (.bool true) ∧ J (pre ++ [x]) A' ∧ Below n0 A A')
    (hc : W.cell? ⟨nb, 0, none⟩ = some (.slice A m c)) (hS : SlB n0 W 1 A m c (iv .u64 xs)) (h0 : J [] W) (hn0 : n0 ≤ W.heap.size) :
    CallsIn F n Try.prog 75 (#[.func (.yield l) #[] #[]] ++ #[.pointer (some ⟨nb, 0, none⟩)]) W fun e W' => (∃ v, e = .returned v) ∧ J (yl 0 xs) W' := by
  have HJ := Lib.hid hJ
  have HY := Lib.hid hY
  have HW := Lib.hid hw
  have hl := hS.sl.ilen
  have s1 := hS.sl.small
  have HL := Lib.hid hl
  have HS := Lib.hid hS
  have HJ0 := Lib.hid h0
  clear hJ hY hw hl hS h0
  refine callsIn_of_wp Try.func75 rfl hF ?_ hro
  simp only [Try.ntmps75, List.size_toArray, List.length_cons, List.length_nil, Nat.reduceAdd, Nat.reduceSub, Array.replicate_succ, Array.replicate_zero, List.push_toArray, List.append_toArray, List.nil_append, List.cons_append]
  gi_wp2
  gi_loopw [3, 10] (fun q i wr => ∃ (pre : List (Int × Int)) (s : Int) (k : Nat), q = .int .u64 s ∧ i = .int .i64 (k : Int) ∧ k ≤ m ∧ Hid (yl 0 xs = pre ++ yl s (xs.drop k)) ∧ 0 ≤ s ∧ s ≤ 4611686018427387904 ∧ Hid (SlB n0 wr 1 A m c (iv .u64 xs)) ∧ n0 ≤ wr.heap.size ∧ Hid (J pre wr))
    (fun _ i _ => match i with | .int _ k => m - k.toNat | _ => 0)
  case atStart => exact ⟨[], 0, 0, rfl, rfl, Nat.zero_le _, Lib.hid rfl, by omega, by omega, HS, hn0, HJ0⟩
  case round =>
    obtain ⟨pre, s, k, rfl, rfl, hkm, hp, hs0, hs1, hS, hn0, hj⟩ := hrel
    by_cases hk : k < m
    · have hkn : (k : Int) < (m : Int) := by omega
      obtain ⟨b1, o1, rfl, hb1, hcc⟩ := hS.out.sl.cell hk
      have x_0 := hcc k hk
      have hkl : k < xs.length := by have := HL.out; omega
      obtain ⟨a, ha⟩ : ∃ a, a = xs.getD k 0 := ⟨_, rfl⟩
      rw [← ha] at x_0
      have hax : xs[k]? = some a := by rw [ha, List.getD_eq_getElem?_getD, List.getElem?_eq_getElem hkl]; rfl
      have hwa := HW.out a (List.mem_of_getElem? hax)
      have hdr : xs.drop k = a :: xs.drop (k + 1) := by rw [List.drop_eq_getElem_cons hkl, (List.getElem?_eq_some_iff.1 hax).2]
      have hsw : Word s := ⟨hs0, by omega⟩
      obtain ⟨N, hN⟩ : ∃ N, N = addN s a := ⟨_, rfl⟩
      obtain ⟨E, hE⟩ : ∃ E, E = addE s a := ⟨_, rfl⟩
      have CA := Lib.hid (fun w => fAdd_in F (n - 1) hF2 hF3 hro s a N E hsw hwa hN hE w)
      by_cases hok : s + a ≤ 4611686018427387904
      · have h1 : N = s + a := by rw [hN]; exact if_pos (by omega)
        have h2 : E = 0 := by rw [hE]; exact if_pos (by omega)
        subst h1; subst h2
        have hle : ¬ 4611686018427387904 < s + a := by omega
        have hnx : yl 0 xs = (pre ++ [(s + a, 0)]) ++ yl (s + a) (xs.drop (k + 1)) := by rw [hp.out, hdr, yl_ok hok]; simp
        have HNX := Lib.hid hnx
        have HA0 := Lib.hid (And.intro hs0 (And.intro hwa hok))
        clear hp hdr hnx hN hE ha hax hcc hkl hwa hsw hok
        gi_wp2_with fail
        refine ⟨fun _ => by omega, (CA.out _).mono ?_⟩
        rintro e W2 ⟨rfl, hx2⟩
        have hj2 := HJ.out _ _ _ hj.out hx2
        have hS2 := Lib.hid (hS.out.ext hx2)
        have hz2 := hx2.size
        obtain ⟨fn, tmps, assign, body, hy, hR⟩ := HY.out pre (s + a, 0) W2 hj2 (by rw [HNX.out]; exact List.prefix_append _ _)
        have HR := Lib.hid hR
        clear hR hj2 hx2 x_0
        gi_wp2_with fail
        refine ⟨fun _ => by omega, HR.out.mono ?_⟩
        rintro e W3 ⟨rfl, hj3, hk3⟩
        have hS3 := Lib.hid (hS2.out.bel hk3 (Nat.le_refl _))
        have hz3 := hk3.size
        have HJ3 := Lib.hid hj3
        clear hj3 hk3 HR
        gi_wp2_with fail
        go_roundw
        case rel => exact ⟨pre ++ [(s + a, 0)], s + a, k + 1, rfl, by simp, by omega, HNX, by have := HA0.out; have := HA0.out.2.1.1; omega, by have := HA0.out; omega, hS3, by omega, HJ3⟩
        case measure => simp; omega
      · have hnx : yl 0 xs = pre ++ [(0, 12)] := by rw [hp.out, hdr, yl_no hok]
        have HNX := Lib.hid hnx
        have hor : E = 12 ∨ (E = 0 ∧ 4611686018427387904 < N) := by
          unfold addE at hE
          unfold addN at hN
          split at hE
          · rename_i h; rw [if_pos h] at hN; right; omega
          · exact .inl hE
        clear hp hdr hnx hN hE ha hax hcc hkl hwa hsw hok
        gi_wp2_with fail
        refine ⟨fun _ => by omega, (CA.out _).mono ?_⟩
        rintro e W2 ⟨rfl, hx2⟩
        have hj2 := HJ.out _ _ _ hj.out hx2
        obtain ⟨fn, tmps, assign, body, hy, hR⟩ := HY.out pre (0, 12) W2 hj2 (by rw [HNX.out]; exact List.prefix_rfl)
        have HR := Lib.hid hR
        clear hR hj2 hx2 x_0
        rcases hor with rfl | ⟨rfl, hgt⟩
        · gi_wp2_with fail
          refine ⟨fun _ => by omega, HR.out.mono ?_⟩
          rintro e W3 ⟨rfl, hj3, hk3⟩
          rw [← HNX.out] at hj3
          gi_wp2_with fail
          refine bodyPost_ret (v := .tuple #[]) (by simp [results, Try.results75]; try rfl) rfl ?_
          exact ⟨⟨_, rfl⟩, hj3⟩
        · gi_wp2_with fail
          refine ⟨fun _ => by omega, HR.out.mono ?_⟩
          rintro e W3 ⟨rfl, hj3, hk3⟩
          rw [← HNX.out] at hj3
          gi_wp2_with fail
          refine bodyPost_ret (v := .tuple #[]) (by simp [results, Try.results75]; try rfl) rfl ?_
          exact ⟨⟨_, rfl⟩, hj3⟩
    · have hkn : ¬ (k : Int) < (m : Int) := by omega
      have hnx : yl 0 xs = pre := by rw [hp.out, List.drop_eq_nil_of_le (by have := HL.out; omega)]; simp [yl]
      have HJ3 : Hid (J (yl 0 xs) wr) := Lib.hid (by rw [hnx]; exact hj.out)
      have HNX := Lib.hid hnx
      clear hnx hp
      gi_wp2
      go_end0
      exact ⟨⟨_, rfl⟩, HJ3.out⟩
end Go.Proofs.Ytlgjdeggbcgbnaa
