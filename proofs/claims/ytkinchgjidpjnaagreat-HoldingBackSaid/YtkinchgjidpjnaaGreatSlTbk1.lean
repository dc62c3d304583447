/- Tbk, part 1. Conditions stand in each lemma. -/
import Derived.WalkKit
import Derived.Deep.QuietTactic
import Derived.Deep.Draws
import Derived.Lib.Hide
import Derived.Laws.OwnMore
import Derived.Laws.AppendOwn
import Derived.OwnWalk
import Derived.Maps.AppendAt
import Derived.Deep.RegionHeld3
import Derived.RangeFuncBox
import Derived.RangeFuncLeaves
import Derived.Shelf.Abstract
import Derived.OwnWalkIn
import Derived.TacticsInMore
import Derived.LoopNIn
import Derived.LoopIn
import Derived.Test.YtkinchgjidpjnaaGreatRows
import Derived.Deep.Onto
import Derived.ProofKit
import Derived.ChangeOld
import Derived.OpenShut
import Derived.Deep.Slices
import Derived.BigQuiet
import Derived.IntWalk
import Derived.Lib.SliceRun
import Derived.Deep.LoopGhost
import Derived.WalkSpells
import Derived.WalkLawsBesides
import Derived.ArgAppend
import Derived.Lib.SmallJoins
import Derived.Test.YtkinchgjidpjnaaGreatShelf
import Derived.Test.YtkinchgjidpjnaaGreatDivNorm
import Derived.Deep.DeepCutAuto
import Derived.Deep.CutBlock
import Derived.Shelf.Spec.BitsCarry
import Derived.Test.YtkinchgjidpjnaaGreatFixRefMath
import Derived.Test.YtkinchgjidpjnaaGreatFixDivideMath
import Derived.Handy
import Derived.Laws.CopyRow
import Derived.Lib.AppendZerosOnto
import Derived.Laws.Externs
import Derived.Lib.Overlaps
import Derived.Shelf.RegionOpenPlain
import Derived.Lib.AppendZeros
import Derived.WalkMore
import Derived.Laws.IdiomCopy
import Derived.Laws.StructEq
import Derived.Laws.BytesArg
import Derived.RangeFuncNested
import Derived.Test.YtkinchgjidpjnaaGreatSlTba5
import Derived.Test.YtkinchgjidpjnaaGreatSlTkn2
import Derived.Test.YtkinchgjidpjnaaGreatSlTne3
set_option linter.unusedVariables false
set_option linter.unusedSimpArgs false
set_option maxRecDepth 100000
set_option maxHeartbeats 64000000
namespace Go.Proofs.YtkinchgjidpjnaaGreat
section
open Go.RowKit
theorem zSlTbk1_0 {P : Prop} (h : P := by first | exact (fun hh => hh.1 rfl) | (intro hh; have h9 := hh.2; omega)) : P := h
theorem zSlTbk1_1 {P : Prop} (h : P := by simp [go_sem, d0, d1, d2, d3, e0, e1, e2, e3, n1, n2]) : P := h
theorem zSlTbk1_2 {P : Prop} (h : P := by repeat (first | assumption | exact Ext.refl _ | refine Ext.drew ?_ | refine Ext.drewN ?_ _ | refine Ext.alloc ?_ _ | refine Ext.setCell ?_ (by first | omega | (simp; done) | (simp; omega)) _ | refine Ext.trans ?_ (by assumption))) : P := h
theorem zSlTbk1_3 {P : Prop} (h : P := by simp [results, Tryz.results165, go_sem]; first | rfl | exact wrap64_eq n | exact (IntWalk.i64_in n (by omega)).symm) : P := h
theorem zSlTbk1_4 {P : Prop} (h : P := by simp [go_sem, s0, s1, s2, s3, t0, t1, t2, t3]) : P := h
theorem zSlTbk1_5 {P : Prop} (h : P := by first | fail | (simp [go_sem, World.cell?_alloc_past]; done)) : P := h
theorem zSlTbk1_6 {P : Prop} (h : P := by simp [go_sem, s0, s1, s2, s3, t0, t1, t2, t3, n1, n2]) : P := h
theorem zSlTbk1_7 {P : Prop} (h : P := by have := HQ0.out; (try simp only [List.length_append]); omega) : P := h
theorem zSlTbk1_8 {P : Prop} (h : P := by simp [results, Tryz.results166, go_sem]; try rfl) : P := h
section
variable {w w' : World} {sz n c : Nat} {A : Option Addr} {xs : List Value}
end
theorem own_parts {w : World} {base : Nat} {e : TypeId} {sz n : Nat} {v : Value} {xs : List Value} (h : w.ownsRow base e sz v n xs) : ∃ A c, v = .slice A n c ∧ Sl w sz A n c xs := by
 rcases h.2 with ⟨rfl, rfl⟩ | ⟨g, cap, cur, rfl, rest⟩
 ·exact ⟨_, _, rfl, Sl.own h⟩
 exact ⟨_, _, rfl, Sl.own h⟩

theorem Sl.ilen {w : World} {A : Option Addr} {n c : Nat} {k : IntKind} {l : List Int} (h : Sl w 1 A n c (iv k l)) : l.length = n := by
 have := h.len; rw [iv_len] at this; omega
end
section
open Go.RowKit Go.Shelf
attribute [local go_sem] Oper.semAt_some

def putL (n : Nat) : List Nat := if h : n < 128 then [n] else (n % 128 + 128) :: putL (n / 128)
termination_by n
decreasing_by omega
theorem putL_lt {n : Nat} (h : n < 128) : putL n = [n] := by rw [putL, dif_pos h]
theorem putL_ge {n : Nat} (h : ¬ n < 128) : putL n = (n % 128 + 128) :: putL (n / 128) := by rw [putL, dif_neg h]
theorem putL_len (n : Nat) : ∀ k, n < 2 ^ (7 * (k + 1)) → (putL n).length ≤ k + 1 := by
 intro k
 induction k generalizing n with
 | zero => intro h; rw [putL_lt (by simpa using h)]; simp
 | succ k ih =>
  intro h
  by_cases h1 : n < 128
  ·rw [putL_lt h1]; simp
  rw [putL_ge h1, List.length_cons]
  have : n / 128 < 2 ^ (7 * (k + 1)) := by
   rw [Nat.div_lt_iff_lt_mul (by decide)]
   have e : 2 ^ (7 * (k + 1 + 1)) = 2 ^ (7 * (k + 1)) * 128 := by
    rw [show 7 * (k + 1 + 1) = 7 * (k + 1) + 7 from by omega, Nat.pow_add]
   omega
  have := ih (n / 128) this
  omega

def cellPost (n0 : Nat) (J : World → Prop) (W : World) : Exit → Act → World → Prop
 | .normal, _, W' => KeepsOthers W W' ∧ Below n0 W W' ∧ J W'
 | _, _, _ => False
theorem rangeFunc_cell {α : Type} {F : Fence} {n : Nat} {P : Program} {g : Operand} {ps : Array Tmp} {assign body : Code} {Q : Exit → Act → World → Prop} {a : Act} {w : World}
  (hro : F.round = none) (h1 : 1 ≤ n) {gf : Nat} {lb : Array Value} (hg : a.eval g = .func (.func gf) #[] lb) (hFg : F.fn gf) (eg : ∀ args w, (callFunc gf args).run P w = .ok (.enter gf args) w)
  {enc : α → Value} {xs : List α} {nb : Nat} (hnb : nb < w.heap.size) {n0 : Nat} (hn0 : n0 ≤ w.heap.size)
  (hseq : ∀ (l : Nat) (J : List α → World → Prop) (W : World), Below w.heap.size w W → (∀ s A v, J s A → J s (A.setCell ⟨nb, 0, none⟩ v)) →
   (∀ pre x A, J pre A → pre ++ [x] <+: xs → YieldAt F (n - 1 - 1) P l #[enc x] A fun e A' => e = .returned (.bool true) ∧ J (pre ++ [x]) A' ∧ Below n0 A A') →
   J [] W → CallsIn F (n - 1) P gf (#[.func (.yield l) #[] #[]] ++ lb) W fun e W' => (∃ v, e = .returned v) ∧ J xs W')
  (hps : ps.size = 1) (I : List α → World → Prop) (hIset : ∀ s A v, I s A → I s (A.setCell ⟨nb, 0, none⟩ v))
  (hIput : ∀ s A l o o', I s A → w.heap.size ≤ l → A.heap[l]? = some o → o.isCells = false → I s (A.putObj l o')) (hIalloc : ∀ s A o, I s A → I s (A.alloc o)) (h0 : I [] w) (a₁ : α → Act)
  (hassign : ∀ (l : Nat) (x : α) (W : World) (K : Act → World → Prop), K (a₁ x) W →
   assign.wpIn (F.inRound l) (n - 1 - 1) P (Exit.then K (fun _ _ _ => False)) { tmps := (ps.zip #[enc x]).foldl (fun t (p, v) => t.setIfInBounds p v) a.tmps, defers := [] } W)
  (hbody : ∀ (l : Nat) (pre : List α) (x : α) (W : World), I pre W → pre ++ [x] <+: xs → body.wpIn (F.inRound l) (n - 1 - 1) P
   (cellPost n0 (I (pre ++ [x])) W) (a₁ x) W)
  (hdone : ∀ (D : Nat) (W : World), w.heap.size ≤ D → I xs W → W.heap[D]? = some (.deferred (some [])) → Q .normal { a with defers := { target := .collected D, args := #[] } :: a.defers } W) :
  (Code.rangeFunc g ps assign body).wpIn F n P Q a w := by
 refine wpIn_rangeFunc ?_
 intro fn hfn
 rw [hro]
 obtain ⟨rec, hrec⟩ : ∃ rec : LoopState → Option Code → Loop, rec = fun st pe => { state := st, pending := pe, fn, tmps := a.tmps, params := ps, assign, body, defers := w.heap.size } := ⟨_, rfl⟩
 obtain ⟨W1, hW1⟩ : ∃ W1, (w.alloc (.deferred (some []))).alloc (.loop (rec .ready none)) = W1 := ⟨_, rfl⟩
 have hL1 : W1.heap[w.heap.size + 1]? = some (.loop (rec .ready none)) := by
  rw [← hW1]; have := World.alloc_heap_new (w.alloc (.deferred (some []))) (.loop (rec .ready none)); rwa [World.size_alloc] at this
 have hK1 : W1.heap[w.heap.size]? = some (.deferred (some [])) := by
  rw [← hW1]; exact (Below.heap_alloc _ _ _ (by simp)).trans (World.alloc_heap_new w _)
 have hI1 : I [] W1 := by rw [← hW1]; exact hIalloc _ _ _ (hIalloc _ _ _ h0)
 have hb1 : Below w.heap.size w W1 := by
  rw [← hW1]; exact ((Below.refl _ w).alloc (Nat.le_refl _) _).alloc (by simp) _
 have hother : ∀ (A : World) (v : Value) (k : Nat), w.heap.size ≤ k → (A.setCell ⟨nb, 0, none⟩ v).heap[k]? = A.heap[k]? := fun A v k hk => Below.heap_setCell A ⟨nb, 0, none⟩ v k (by simp; omega)
 refine ⟨w.heap.size + 1, [{ target := .collected w.heap.size, args := #[] }], W1, { target := .fn (.func gf) lb, args := #[.func (.yield (w.heap.size + 1)) #[] #[]] }, W1, gf,
  #[.func (.yield (w.heap.size + 1)) #[] #[]] ++ lb, W1, ?_, ?_, ?_, ?_, fun _ => h1, ?_⟩
 ·rw [← hW1, hrec]; exact run_enterLoop_outer _ _ _ _ _
 ·simp only [resolve, hg]
  simp [go_sem]
 ·intro f' hf'; simp [Target.leads] at hf'; subst hf'; exact hFg
 ·simp [invoke, go_sem, eg]
 refine (hseq (w.heap.size + 1)
  (fun pre W => I pre W ∧ W.heap[w.heap.size + 1]? = some (.loop (rec .ready none)) ∧ W.heap[w.heap.size]? = some (.deferred (some [])))
  W1 hb1 (fun s A v hs => ⟨hIset s A v hs.1, (hother A v _ (by omega)).trans hs.2.1, (hother A v _ (Nat.le_refl _)).trans hs.2.2⟩) ?_ ⟨hI1, hL1, hK1⟩).mono ?_
 ·rintro pre x W ⟨hi, hl, hk⟩ hlen
  have hlt : w.heap.size + 1 < W.heap.size := (Array.getElem?_eq_some_iff.1 hl).1
  have hy := run_yield (P := P) (args := #[enc x]) hl (by rw [hrec]; simp [hps])
  rw [hrec] at hy
  refine ⟨fn, _, assign, body, hy, roundIn_of_wpIn hfn (hassign _ x W _ ⟨_, run_beginRound hl (by rw [hrec]), ?_⟩)⟩
  have hl2 : (W.putObj (w.heap.size + 1) (.loop { rec .ready none with state := .busy })).heap[w.heap.size + 1]? = some (.loop { rec .ready none with state := .busy }) := World.putObj_heap_same hlt
  have hk2 : (W.putObj (w.heap.size + 1) (.loop { rec .ready none with state := .busy })).heap[w.heap.size]? = some (.deferred (some [])) := (World.putObj_heap_other (by omega)).trans hk
  have hb2 : Below n0 W (W.putObj (w.heap.size + 1) (.loop { rec .ready none with state := .busy })) := belowK_b (w := w) hn0 W _ _ _ (by omega) hl rfl rfl
  refine wpIn_mono (hbody _ pre x _ (hIput _ _ _ _ _ hi (by omega) hl rfl) hlen) ?_
  rintro e a3 W3 hp
  cases e with
  | normal =>
   obtain ⟨hk3, hb3, hi3⟩ := hp
   have hl3 := hk3.same _ _ hl2 rfl
   have hend := run_endRound (P := P) none hl3
   refine ⟨_, _, hend, rfl, ⟨hIput _ _ _ _ _ hi3 (by omega) hl3 rfl, ?_, ?_⟩, (hb2.trans hb3).trans (belowK_b (w := w) hn0 W3 _ _ _ (by omega) hl3 rfl rfl)⟩
   ·rw [hrec] at hl3 ⊢
    exact World.putObj_heap_same (Array.getElem?_eq_some_iff.1 hl3).1
   exact (World.putObj_heap_other (by omega)).trans (hk3.same _ _ hk2 rfl)
  | ret => exact hp.elim
  | exit id => exact hp.elim
  | goto t => exact hp.elim
  | panic ch => exact hp.elim
  | outgrown => exact hp.elim
 rintro e W2 ⟨⟨v, rfl⟩, hi, hl, hk⟩
 exact ⟨none, _, by have := run_endLoop (P := P) hl (by rw [hrec]; simp); rw [hrec] at this; exact this, hdone _ _ (Nat.le_refl _) (hIput _ _ _ _ _ hi (by omega) hl rfl) ((World.putObj_heap_other (by omega)).trans hk)⟩
theorem or_all : ∀ r : Fin 256, bits .or .u8 (r.1 : Int) 128 = ((r.1 % 128 + 128 : Nat) : Int) := by decide +kernel
theorem or_byte (m : Nat) : bits .or .u8 ((m : Int) % 256) 128 = ((m % 128 + 128 : Nat) : Int) := by
 have h := or_all ⟨m % 256, Nat.mod_lt _ (by decide)⟩
 simp only at h
 rw [show ((m : Int) % 256) = ((m % 256 : Nat) : Int) from by omega, h]
 congr 1
 omega
theorem putL_head {N m : Nat} {pre : List Nat} (h : putL N = pre ++ putL m) (h1 : ¬ m < 128) : putL N = (pre ++ [m % 128 + 128]) ++ putL (m / 128) := by
 rw [h, putL_ge h1, List.append_assoc]; rfl
theorem cdigits1_in (F : Fence) (n : Nat) (hF : F.fn 207) (hro : F.round = none) (hn : 1 ≤ n) (l nb n0 : Nat) (J : List Nat → World → Prop) (W : World) (N : Nat) (hN : N < 18446744073709551616)
  (hJ : ∀ (s : List Nat) (A : World) (v : Value), J s A → J s (A.setCell ⟨nb, 0, none⟩ v))
  (hY : ∀ (pre : List Nat) (x : Nat) (A : World), J pre A → pre ++ [x] <+: putL N → YieldAt F (n - 1) Tryz.prog l #[.int .u8 (x : Int)] A fun e A' => e = .returned (.bool true) ∧ J (pre ++ [x]) A' ∧ Below n0 A A')
  (hnb : nb < n0) (hc : W.cell? ⟨nb, 0, none⟩ = some (.int .u64 (N : Int))) (hf : W.frozen? ⟨nb, 0, none⟩ = false) (h0 : J [] W) :
  CallsIn F n Tryz.prog 207 (#[.func (.yield l) #[] #[]] ++ #[.pointer (some ⟨nb, 0, none⟩)]) W fun e W' => (∃ v, e = .returned v) ∧ J (putL N) W' := by
 have HJ := Lib.hid hJ
 have HY := Lib.hid hY
 clear hJ hY
 refine callsIn_of_wp Tryz.func207 rfl hF ?_ hro
 simp only [Tryz.ntmps207, List.size_toArray, List.length_cons, List.length_nil, Nat.reduceAdd, Nat.reduceSub, Array.replicate_succ, Array.replicate_zero, List.push_toArray, List.append_toArray, List.nil_append, List.cons_append]
 gi_wp2
 gi_loopw [3] (fun _ wr => ∃ (pre : List Nat) (m : Nat), Hid (putL N = pre ++ putL m) ∧ m < 18446744073709551616 ∧ wr.cell? ⟨nb, 0, none⟩ = some (.int .u64 (m : Int)) ∧ wr.frozen? ⟨nb, 0, none⟩ = false ∧ J pre wr)
  (fun _ wr => match wr.cell? ⟨nb, 0, none⟩ with | some (.int _ m) => m.toNat | _ => 0)
 case atStart => exact ⟨[], N, Lib.hid rfl, hN, hc, hf, h0⟩
 obtain ⟨pre, m, hp, hm, hc, hf, hj⟩ := hrel
 by_cases h1 : m < 128
 ·have h2 : ¬ (128 : Int) ≤ (m : Int) := by omega
  have h3 : pre ++ [m] = putL N := by rw [hp.out, putL_lt h1]
  obtain ⟨fn, tmps, assign, body, hy, hR⟩ := HY.out pre m wr hj (by rw [h3]; exact List.prefix_rfl)
  have HR := Lib.hid hR
  have H3 := Lib.hid h3
  clear hR h3 hp
  gi_wp2
  refine HR.out.mono ?_
  rintro e W3 ⟨rfl, hj3, hk3⟩
  rw [H3.out] at hj3
  gi_wp2
  go_end0
  exact ⟨⟨_, rfl⟩, hj3⟩
 have h2 : (128 : Int) ≤ (m : Int) := by omega
 have h3 := putL_head hp.out h1
 have hq := HY.out pre (m % 128 + 128) wr hj (by rw [h3]; exact List.prefix_append _ _)
 rw [← or_byte] at hq
 obtain ⟨fn, tmps, assign, body, hy, hR⟩ := hq
 have HR := Lib.hid hR
 have H3 := Lib.hid h3
 have HM := Lib.hid (And.intro h1 hm)
 clear hR h3 hp
 gi_wp2
 refine HR.out.mono ?_
 rintro e W3 ⟨rfl, hj3, hk3⟩
 have hc3 : W3.cell? ⟨nb, 0, none⟩ = some (.int .u64 (m : Int)) := (hk3.cell (p := ⟨nb, 0, none⟩) hnb).trans hc
 have hf3 : W3.frozen? ⟨nb, 0, none⟩ = false := (hk3.frozen (p := ⟨nb, 0, none⟩) hnb).trans hf
 gi_wp2
 go_roundw
 case rel => exact ⟨pre ++ [m % 128 + 128], m / 128, H3, by omega, by simp [go_sem, hc3], by simp [go_sem, hf3], HJ.out _ _ _ hj3⟩
 case measure => simp [go_sem, hc3, hc]; omega
def AppI (n0 : Nat) (w : World) (t e : TypeId) (xs : List Value) (W : World) : Prop := (∃ v, Boxed W w.heap.size t v ∧ W.ownsRow w.heap.size e 1 v xs.length xs) ∧ Below n0 w W
theorem u8_info : (Tryz.prog.info? 5).map (fun i => (i.zero, i.size, i.bytes)) = some (some (.int .u8 0), 1, 1) := by kernel_rfl
theorem by_snoc (l : List Nat) (x : Nat) : by_ l ++ [Value.int .u8 (x : Int)] = by_ (l ++ [x]) := by simp [by_]
theorem by_len (l : List Nat) : (by_ l).length = l.length := by simp [by_]
theorem cAppendSeq_any (nb N : Nat) (hN : N < 18446744073709551616) (n0 : Nat) (w : World) (hn0 : n0 ≤ nb) (hnb : nb < w.heap.size) (hc : w.cell? ⟨nb, 0, none⟩ = some (.int .u64 (N : Int))) (hf : w.frozen? ⟨nb, 0, none⟩ = false) :
  Calls Tryz.prog 206 #[.slice none 0 0, .func (.func 207) #[] #[.pointer (some ⟨nb, 0, none⟩)]] w fun e W' => ∃ v, e = .returned v ∧ W'.ownsRow w.heap.size 5 1 v (putL N).length (by_ (putL N)) ∧ Below n0 w W' := by
 obtain ⟨i0, hi, hz0, hz1, hz2⟩ := info_parts u8_info
 have hlen : (putL N).length ≤ 10 := putL_len N 9 (by omega)
 refine (callsIn_wide (n := 5)).1 ?_
 refine callsIn_of_wp_marks Tryz.func206 rfl trivial ?_ rfl
 simp only [Tryz.ntmps206, List.size_toArray, List.length_cons, List.length_nil, Nat.reduceAdd, Nat.reduceSub, Array.replicate_succ, Array.replicate_zero, List.push_toArray, List.append_toArray, List.nil_append, List.cons_append]
 gi_wp2
 have bO := Boxed.new w 90 (.slice none 0 0)
 have hB0 : Below n0 w (w.alloc (.cells #[.slice none 0 0] 90)) := (Below.refl _ w).alloc (by omega) _
 have hB1 : Below w.heap.size w (w.alloc (.cells #[.slice none 0 0] 90)) := (Below.refl _ w).alloc (Nat.le_refl _) _
 have hc1 := (hB1.cell (p := ⟨nb, 0, none⟩) hnb).trans hc
 have hf1 := (hB1.frozen (p := ⟨nb, 0, none⟩) hnb).trans hf
 refine rangeFunc_cell rfl (by decide) (gf := 207) (lb := #[.pointer (some ⟨nb, 0, none⟩)]) rfl trivial (enters_of Tryz.func207 (by kernel_rfl) rfl) (enc := fun x : Nat => Value.int .u8 (x : Int)) (xs := putL N) (nb := nb) (by simp; omega) (n0 := w.heap.size) (by simp)
  (fun l J W hW hJ hY h0 => cdigits1_in _ _ trivial rfl (by decide) l nb w.heap.size J W N hN hJ hY hnb ((hW.cell (p := ⟨nb, 0, none⟩) (by simp; omega)).trans hc1) ((hW.frozen (p := ⟨nb, 0, none⟩) (by simp; omega)).trans hf1) h0)
  rfl
  (fun pre W => AppI n0 w 90 5 (by_ pre) W)
  (fun s A v hs => ?_) (fun s A l o o' hs hl ho hnc => ?_) (fun s A o hs => ?_)
  ⟨⟨_, bO, World.ownsRow_nil _ _ _ _⟩, hB0⟩
  (fun x => { tmps := #[.slice none 0 0, .func (.func 207) #[] #[.pointer (some ⟨nb, 0, none⟩)], .pointer (some ⟨w.heap.size, 0, none⟩), undef, .slice none 0 0, .int .u8 (x : Int), .func (.func 207) #[] #[.pointer (some ⟨nb, 0, none⟩)], .int .u8 (x : Int), undef, undef, undef, undef, undef], defers := [] }) ?assign ?body ?done
 case assign =>
  intro l x W K hK
  gi_wp2
  exact hK
 case body =>
  rintro l pre x W ⟨⟨v, hv, hrow⟩, hB⟩ hpre
  have hc := hv.cell
  rw [by_len] at hrow
  have hpl : pre.length < 10 := by
   have := hpre.length_le
   simp at this
   omega
  have hWs : w.heap.size ≤ W.heap.size := by have := hv.lt; omega
  gi_wp2_with (gi_at_builtin; refine wpListIn_append_own _ rfl _ _ 90 rfl w.heap.size 5 i0 (.int .u8 0) 1 1 Tryz.underlying90 hi hz0 hz1 hz2 rfl (by decide) _ _ _ rfl (hrow.alloc _) ⟨W.heap.size, 0, none⟩ 1 1 [.int .u8 (x : Int)] rfl rfl (cell_one_new _ _ _) (by simp [Value.oneCell']) (by simp [maxLen]; omega) (by omega) (by simp; omega) ?_; intro v' w1 hown' hgrow _; obtain ⟨g', cap', rfl⟩ := ownsRow_succ hown'; obtain ⟨hv1, hv2, hr2, hk2, hb2⟩ := hv.appended (by decide) hrow hWs (Nat.le_refl _) hown' hgrow; have hc1 := hv1.cell; have hf1 := hv1.frozen)
  rw [by_snoc] at hr2
  exact ⟨hk2, hb2, ⟨_, hv2, by simpa [by_len] using hr2⟩, hB.trans (hb2.mono (by omega))⟩
 case done =>
  rintro D W hD ⟨⟨v, hv, hrow⟩, hB⟩ hK
  rw [by_len] at hrow
  have hc := hv.cell
  gi_wp2
  refine ⟨by simp, .inl ⟨_, _, rfl, run_takeDeferred hK, ?_⟩⟩
  exact ⟨_, results_tmp rfl _ _ _, v, rfl, ownsRow_putObj hrow _ hK rfl, hB.trans (belowK_b (w := w) (by omega) W D _ _ (by simp at hD; omega) hK rfl rfl)⟩
 ·obtain ⟨⟨v', hv, hrow⟩, hB⟩ := hs
  refine ⟨⟨v', hv.kept (grownBy_setCell' A nb v) (by simp; omega), ?_⟩, hB.setCell (p := ⟨nb, 0, none⟩) hn0 _⟩
  exact ownsRow_setCell_below hrow hnb _
 ·obtain ⟨⟨v', hv, hrow⟩, hB⟩ := hs
  refine ⟨⟨v', hv.kept (grownBy_putObj' A l o') (by simp at hl ⊢; omega), ownsRow_putObj hrow _ ho hnc⟩, hB.grown (grownBy_putObj' A l o') (by have := hB.size; omega) (fun k e => by cases e; simp at hl; omega)⟩
 obtain ⟨⟨v', hv, hrow⟩, hB⟩ := hs
 exact ⟨⟨v', hv.alloc _, hrow.alloc _⟩, hB.alloc (by have := hB.size; omega) _⟩
theorem cCollect_any (nb N : Nat) (hN : N < 18446744073709551616) (n0 : Nat) (w : World) (hn0 : n0 ≤ nb) (hnb : nb < w.heap.size) (hc : w.cell? ⟨nb, 0, none⟩ = some (.int .u64 (N : Int))) (hf : w.frozen? ⟨nb, 0, none⟩ = false) :
  Calls Tryz.prog 192 #[.func (.func 207) #[] #[.pointer (some ⟨nb, 0, none⟩)]] w fun e W' => ∃ v, e = .returned v ∧ W'.ownsRow n0 5 1 v (putL N).length (by_ (putL N)) ∧ Below n0 w W' := by
 have C := Lib.hid (cAppendSeq_any nb N hN n0 w hn0 hnb hc hf)
 have hbs : n0 ≤ w.heap.size := by omega
 clear hc hf hnb hn0
 go_enter Tryz.func192, Tryz.ntmps192
 go_wp2_with fail
 refine C.out.mono ?_
 rintro e w2 ⟨v, rfl, h1, h2⟩
 have H := Lib.hid (show ∃ v', Ending.returned v = .returned v' ∧ w2.ownsRow n0 5 1 v' (putL N).length (by_ (putL N)) ∧ Below n0 w w2 from ⟨v, rfl, World.ownsRow.mono h1 hbs, h2⟩)
 clear h1 h2 C
 go_wp2_with fail
 go_ret
 exact H.out
theorem cdigits_any (N : Int) (w : World) :
  Calls Tryz.prog 193 #[.int .u64 N] w fun e w' => e = .returned (.func (.func 207) #[] #[.pointer (some ⟨w.heap.size, 0, none⟩)]) ∧ w' = w.alloc (.cells #[.int .u64 N] 32) := by
 have hmf : ∀ (fn : Fn) (first cap : Array Value) (w : World), (Instr.makeFunc fn first cap).run Tryz.prog w = .ok (.func fn first cap) w := fun _ _ _ _ => rfl
 go_enter Tryz.func193, Tryz.ntmps193
 go_wp2
 go_ret
 exact ⟨rfl, rfl⟩
def ByRet (l : List Nat) (w : World) (e : Ending) (w' : World) : Prop := ∃ v, e = .returned v ∧ w'.ownsRow w.heap.size 5 1 v l.length (by_ l) ∧ Ext w w'
theorem cPut_any (N : Nat) (hN : N < 18446744073709551616) (w : World) : Calls Tryz.prog 160 #[.int .u64 (N : Int)] w (ByRet (putL N) w) := by
 go_enter Tryz.func160, Tryz.ntmps160
 go_wp2_with fail
 refine (cdigits_any _ _).mono ?_
 rintro e w1 ⟨rfl, rfl⟩
 go_wp2_with fail
 refine (cCollect_any w.heap.size N hN w.heap.size _ (Nat.le_refl _) (by simp) (by simp [go_sem]) (by simp [go_sem])).mono ?_
 rintro e w2 ⟨v, rfl, h1, h2⟩
 have H := Lib.hid (show ByRet (putL N) w (.returned v) w2 from ⟨v, rfl, h1, Below.trans ((Below.refl _ w).alloc (Nat.le_refl _) _) h2⟩)
 clear h1 h2
 go_wp2_with fail
 go_ret
 exact H.out
end
section
open Go.RowKit Go.ChangeShapes Go.WideShapes
section
variable {H : Type} {enc : TypeId × Value → H} {P : Program} {w : World} {base : Nat} {spare : Nat → Bool} {held : Bool}
theorem open_raw {t e : TypeId} {sz fuel n c : Nat} {A : Option Addr} {x : DataW H × List MemPlace} (ht : P.underlying t = some (.slice e)) (hsz : P.cellsOf e = sz) (hpos : 0 < sz)
  (h : DataW.trod enc P w base spare held fuel t [.slice A n c] = some x) :
  ∃ xs : List Value, Sl w sz A n c xs ∧ ∀ i, i < n → ∃ m y, DataW.trod enc P w base spare held m e ((xs.drop (i * sz)).take sz) = some y := by
 rcases Go.Deep.open_slice ht h with ⟨h0, _⟩ | ⟨a, len, cap, m, n', D, Pl, hcs, _, hl, hm, hmm, _, hi⟩
 ·simp at h0
  obtain ⟨rfl, rfl, rfl⟩ := h0
  exact ⟨[], Sl.nil _ _, fun i hi => absurd hi (by omega)⟩
 simp at hcs
 obtain ⟨rfl, rfl, rfl⟩ := hcs
 subst hsz
 have hnm : n ≤ m := by rw [hmm]; split <;> omega
 -- the cells, one by one
 have hcell : ∀ i, i < n → ∀ j, j < P.cellsOf e → ∃ v, w.cell? (a.add (i * P.cellsOf e + j)) = some v := by
  intro i hin j hj
  obtain ⟨cs', hc, ht'⟩ := hi i (by omega)
  obtain ⟨_, hcl, hat⟩ := World.cells?_some hc
  refine ⟨cs'[j]'(by omega), ?_⟩
  have := hat j hj
  rw [Go.Deep.add_add] at this
  rw [this, List.getElem?_eq_getElem (by omega)]
 obtain ⟨b, o, spot⟩ := a
 rcases Nat.eq_zero_or_pos n with hn0 | hnp
 ·subst hn0
  exact ⟨[], ⟨by simp, by omega, hm, fun h => absurd h (by omega)⟩, fun i hi => absurd hi (by omega)⟩
 have hspot : spot = none := by
  obtain ⟨v, hv⟩ := hcell 0 hnp 0 hpos
  simpa [Addr.add] using World.cell?_spot hv
 subst hspot
 let f : Nat → Value := fun j => (w.cell? ⟨b, o + j, none⟩).getD undef
 have hf : ∀ j, j < n * P.cellsOf e → w.cell? ⟨b, o + j, none⟩ = some (f j) := by
  intro j hj
  have h1 : j / P.cellsOf e < n := by rw [Nat.div_lt_iff_lt_mul hpos]; exact hj
  obtain ⟨v, hv⟩ := hcell (j / P.cellsOf e) h1 (j % P.cellsOf e) (Nat.mod_lt _ hpos)
  rw [Nat.div_add_mod', addr_add] at hv
  show _ = some ((w.cell? ⟨b, o + j, none⟩).getD undef)
  rw [hv]; rfl
 have hb : b < w.heap.size := by
  have h1 := hf 0 (by exact Nat.mul_pos hnp hpos)
  unfold World.cell? at h1
  rcases hx : w.heap[b]? with _ | ob
  ·simp [hx] at h1
  exact (Array.getElem?_eq_some_iff.1 hx).1
 refine ⟨(List.range (n * P.cellsOf e)).map f, ⟨by simp, by omega, hm, fun _ => ⟨b, o, rfl, hb, fun j u hu => ?_⟩⟩, fun i hin => ?_⟩
 ·rw [List.getElem?_map] at hu
  rcases Nat.lt_or_ge j (n * P.cellsOf e) with hj | hj
  ·rw [List.getElem?_range hj] at hu
   simp at hu
   rw [hf j hj, hu]
  rw [List.getElem?_eq_none (by simpa using hj)] at hu
  simp at hu
 obtain ⟨cs', hc, ht'⟩ := hi i (by omega)
 obtain ⟨_, hcl, hat⟩ := World.cells?_some hc
 have e1 : (((List.range (n * P.cellsOf e)).map f).drop (i * P.cellsOf e)).take (P.cellsOf e) = cs' := by
  apply List.ext_getElem?
  intro j
  rw [List.getElem?_take]
  have hle : (i + 1) * P.cellsOf e ≤ n * P.cellsOf e := Nat.mul_le_mul_right _ hin
  rw [Nat.add_mul, Nat.one_mul] at hle
  split
  ·rename_i hj
   rw [List.getElem?_drop, List.getElem?_map, List.getElem?_range (by omega)]
   have h2 := hat j hj
   rw [Go.Deep.add_add, addr_add] at h2
   rw [← h2, hf _ (by omega)]
   rfl
  rename_i hj
  rw [List.getElem?_eq_none (by omega)]
 exact ⟨n', (D i, Pl i), by rw [e1]; exact ht'⟩
theorem open_sl {t e : TypeId} {k : IntKind} {n c : Nat} {A : Option Addr} {d : DataW H} {p : List MemPlace} (ht : P.underlying t = some (.slice e)) (he : P.underlying e = some (.int k)) (hc : P.cellsOf e = 1)
  (h : DataW.Trod enc P w base spare held t (.slice A n c) d p) (_hlt : ∀ x ∈ p, x.block < w.heap.size) : ∃ l : List Int, Sl w 1 A n c (iv k l) ∧ ∀ x ∈ l, Fits k x := by
 obtain ⟨fuel, hf⟩ := h
 obtain ⟨xs, hs, hr⟩ := open_raw ht hc (by decide) (by simpa [Value.cells] using hf)
 have hlen := hs.len
 rw [Nat.mul_one] at hlen
 have hel : ∀ i (hi : i < xs.length), ∃ z, xs[i] = .int k z ∧ Fits k z := by
  intro i hi
  obtain ⟨m, y, hy⟩ := hr i (by omega)
  rw [Nat.mul_one, List.drop_eq_getElem_cons hi] at hy
  obtain ⟨z, hz, _, hw⟩ := DataW.trod_int he hy
  exact ⟨z, List.head_eq_of_cons_eq (show xs[i] :: [] = _ :: [] from hz), hw⟩
 refine ⟨xs.map (fun v => match v with | .int _ z => z | _ => 0), ?_, ?_⟩
 ·have : iv k (xs.map (fun v => match v with | .int _ z => z | _ => 0)) = xs := by
   unfold iv
   rw [List.map_map]
   apply List.ext_getElem
   ·simp
   intro i h1 h2
   obtain ⟨z, hz, _⟩ := hel i h2
   simp [hz]
  rw [this]
  exact hs
 intro x hx
 rw [List.mem_map] at hx
 obtain ⟨v, hv, rfl⟩ := hx
 obtain ⟨i, hi, rfl⟩ := List.mem_iff_getElem.1 hv
 obtain ⟨z, hz, hw⟩ := hel i hi
 simp only [hz]
 exact hw
end
end
section
open Go.RowKit
theorem cstate_any (g : Nat) (e : Int) (w : World) (h2 : w.cell? ⟨g, 2, none⟩ = some (.bool true)) (h3 : w.cell? ⟨g, 3, none⟩ = some (.int .i64 e)) :
  Calls Tryz.prog 158 #[.pointer (some ⟨g, 0, none⟩)] w fun r w' => r = .returned (.int .i64 e) ∧ w = w' := by
 go_enter Tryz.func158, Tryz.ntmps158
 go_wp2
 go_ret
 exact ⟨rfl, rfl⟩
theorem cadd_err (g : Nat) (lim e : Int) (L : List Nat) (v : Value) (w : World) (h : Wr w g lim e L) (he : ¬ e = 0) :
  Calls Tryz.prog 159 #[.pointer (some ⟨g, 0, none⟩), v] w fun r w' => r = .returned (.int .i64 e) ∧ w = w' := by
 have H2 := h.c2
 have H3 := h.c3
 have hef : (e == 0) = false := beq_false_of_ne he
 clear h he
 go_enter Tryz.func159, Tryz.ntmps159
 go_wp2_with fail
 refine (cstate_any g e _ H2 H3).mono ?_
 rintro r w1 ⟨rfl, rfl⟩
 go_wp2
 go_ret
 exact ⟨rfl, rfl⟩
theorem Wr.setErr {w : World} {g : Nat} {lim err : Int} {L : List Nat} (h : Wr w g lim err L) (e : Int) : Wr (w.setCell ⟨g, 3, none⟩ (.int .i64 e)) g lim e L := by
 obtain ⟨A, c, h0, h1⟩ := h.b
 have c1 := h.c1
 have c2 := h.c2
 have c3 := h.c3
 have f0 := h.f0
 have f3 := h.f3
 exact ⟨⟨A, c, by simp [go_sem, h0], ownsRow_setCell_below h1 (by simp) _⟩, by simp [go_sem, c1], by simp [go_sem, c2], by simp [go_sem, c3], by simp [go_sem, f0], by simp [go_sem, f3], by simpa using h.lt, h.short, h.l0, h.l1⟩
theorem by_one {l : List Nat} : ∀ u ∈ by_ l, u.oneCell' = true := by
 intro u hu
 unfold by_ at hu
 obtain ⟨x, _, rfl⟩ := List.mem_map.1 hu
 rfl
theorem by_append (a b : List Nat) : by_ a ++ by_ b = by_ (a ++ b) := by simp [by_]
theorem cadd_long (g : Nat) (lim : Int) (L : List Nat) (B : Option Addr) (m d : Nat) (w : World) (h : Wr w g lim 0 L) (hm : m ≤ 1048576) (hl : lim - L.length < m) :
  Calls Tryz.prog 159 #[.pointer (some ⟨g, 0, none⟩), .slice B m d] w fun r w' => r = .returned (.int .i64 4) ∧ Wr w' g lim 4 L ∧ Below g w w' := by
 have H2 := h.c2
 have H3 := h.c3
 obtain ⟨A, c, H0, hown⟩ := h.b
 have H1 := h.c1
 have F3 := h.f3
 have l0 := h.l0
 have l1 := h.l1
 have l2 := h.short
 have HH := Lib.hid h
 have hln : (L.length : Int) ≤ 1048576 := by omega
 have hmn : (m : Int) ≤ 1048576 := by omega
 have e1 : decide (lim - (L.length : Int) < (m : Int)) = true := by simpa using hl
 clear hown h hl
 generalize hLn : L.length = N at *
 replace hLn := Lib.hid hLn
 have eq1 : IntKind.i64.wrap (lim - (N : Int)) = lim - N := IntWalk.i64_in _ (by omega)
 go_enter Tryz.func159, Tryz.ntmps159
 go_wp2_with fail
 refine (cstate_any g 0 _ H2 H3).mono ?_
 rintro r w1 ⟨rfl, rfl⟩
 go_wp2_with fail
 go_quiet (fail)
 go_wp2
 go_ret
 exact ⟨rfl, (HH.out.drewN _).setErr 4, (below_drewN (Below.refl _ _) _).setCell (p := ⟨g, 3, none⟩) (Nat.le_refl _) _⟩
theorem cadd_ok (g : Nat) (lim : Int) (L bl : List Nat) (B : Option Addr) (m d : Nat) (w : World) (h : Wr w g lim 0 L) (hS : Sl w 1 B m d (by_ bl)) (hl : ¬ lim - L.length < m) :
  Calls Tryz.prog 159 #[.pointer (some ⟨g, 0, none⟩), .slice B m d] w fun r w' => r = .returned (.int .i64 0) ∧ Wr w' g lim 0 (L ++ bl) ∧ Below g w w' := by
 obtain ⟨i0, hi, hz0, hz1, hz2⟩ := info_parts u8_info
 have hbm : bl.length = m := by have := hS.len; rw [by_len] at this; omega
 have H2 := h.c2
 have H3 := h.c3
 obtain ⟨A, c, H0, hown⟩ := h.b
 have H1 := h.c1
 have F0 := h.f0
 have l0 := h.l0
 have l1 := h.l1
 have l2 := h.short
 have lt := h.lt
 have HH := Lib.hid h
 have HO := Lib.hid hown
 have HS := Lib.hid hS
 have hln : (L.length : Int) ≤ 1048576 := by omega
 have hmn : (m : Int) ≤ 1048576 := by omega
 have e1 : decide (lim - (L.length : Int) < (m : Int)) = false := decide_eq_false hl
 have hbm := Lib.hid hbm
 have hle : (L.length : Int) + m ≤ lim := by omega
 clear h hown hl hS
 generalize hLn : L.length = N at *
 replace hLn := Lib.hid hLn
 have eq1 : IntKind.i64.wrap (lim - (N : Int)) = lim - N := IntWalk.i64_in _ (by omega)
 go_enter Tryz.func159, Tryz.ntmps159
 go_wp2_with fail
 refine (cstate_any g 0 _ H2 H3).mono ?_
 rintro r w1 ⟨rfl, rfl⟩
 go_wp2_with fail
 go_quiet (fail)
 go_wp2_with (at_builtin; refine wpList_append_sl (w.drewN nq) rfl _ _ 90 rfl (g + 1) 5 i0 (.int .u8 0) 1 1 Tryz.underlying90 hi hz0 hz1 hz2 rfl (by decide) _ N (by_ L) (by rfl) HO.out B m d (by_ bl) (by rfl) (HS.out.ext ((Ext.refl _).drewN _)) by_one (by omega) (by decide) (by simp; omega) ?_; intro v1 w1 hown1 hb1; obtain ⟨A1, c1, rfl, s1⟩ := own_parts hown1; have q0 : w1.cell? ⟨g, 0, none⟩ = some (.slice A N c) := (hb1.cell (p := ⟨g, 0, none⟩) (by simp)).trans H0; have q1 : w1.frozen? ⟨g, 0, none⟩ = false := (hb1.frozen (p := ⟨g, 0, none⟩) (by simp)).trans F0; have HB := Lib.hid hb1; have HW := Lib.hid hown1; clear hb1 hown1 s1)
 go_ret
 refine ⟨rfl, ?_, ?_⟩
 ·have hb := HB.out
  have hh := HH.out
  have eL : (L ++ bl).length = N + m := by rw [List.length_append, hLn.out, hbm.out]
  have cl : ∀ o, w1.cell? ⟨g, o, none⟩ = w.cell? ⟨g, o, none⟩ := fun o => hb.cell (p := ⟨g, o, none⟩) (by simp)
  have fl : ∀ o, w1.frozen? ⟨g, o, none⟩ = w.frozen? ⟨g, o, none⟩ := fun o => hb.frozen (p := ⟨g, o, none⟩) (by simp)
  have e0 := cl 0; have e1 := (cl 1).trans hh.c1; have e2 := (cl 2).trans hh.c2; have e3 := (cl 3).trans hh.c3
  have g0 := (fl 0).trans hh.f0; have g3 := (fl 3).trans hh.f3
  have hs := hb.size
  simp at hs
  refine ⟨⟨A1, c1, by rw [eL]; simp [go_sem, q0], ?_⟩, by simp [go_sem, e1], by simp [go_sem, e2], by simp [go_sem, e3], by simp [go_sem, g0], by simp [go_sem, g3], by simp; omega, by rw [eL]; omega, l0, l1⟩
  rw [eL, ← by_append]
  exact ownsRow_setCell_below HW.out (by simp) _
 have hbg : Below g (w.drewN nq) w1 := HB.out.mono (Nat.le_succ g)
 exact ((below_drewN (Below.refl g w) nq).trans hbg).setCell (p := ⟨g, 0, none⟩) (Nat.le_refl _) _
def wAddE (lim err : Int) (L b : List Nat) : Int := if err = 0 then (if lim - L.length < b.length then 4 else 0) else err
def wAddL (lim err : Int) (L b : List Nat) : List Nat := if wAddE lim err L b = 0 then L ++ b else L
theorem cadd_any (g : Nat) (lim e : Int) (L bl : List Nat) (B : Option Addr) (m d : Nat) (w : World) (h : Wr w g lim e L) (hS : Sl w 1 B m d (by_ bl)) (hm : m ≤ 1048576) :
  Calls Tryz.prog 159 #[.pointer (some ⟨g, 0, none⟩), .slice B m d] w fun r w' => r = .returned (.int .i64 (wAddE lim e L bl)) ∧ Wr w' g lim (wAddE lim e L bl) (wAddL lim e L bl) ∧ Below g w w' := by
 have hbm : bl.length = m := by have := hS.len; rw [by_len] at this; omega
 unfold wAddL wAddE
 rw [hbm]
 by_cases he : e = 0
 ·subst he
  rw [if_pos rfl]
  by_cases hl : lim - L.length < m
  ·rw [if_pos hl, if_neg (by decide)]
   exact cadd_long g lim L B m d w h hm hl
  rw [if_neg hl, if_pos rfl]
  exact cadd_ok g lim L bl B m d w h hS hl
 rw [if_neg he, if_neg he]
 refine (cadd_err g lim e L _ w h he).mono ?_
 rintro r w' ⟨h1, rfl⟩
 exact ⟨h1, h, Below.refl _ _⟩
theorem cWU_any (g : Nat) (lim e : Int) (L : List Nat) (N : Nat) (hN : N < 18446744073709551616) (w : World) (h : Wr w g lim e L) :
  Calls Tryz.prog 98 #[.pointer (some ⟨g, 0, none⟩), .int .u64 (N : Int)] w fun r w' => r = .returned (.int .i64 (wAddE lim e L (putL N))) ∧ Wr w' g lim (wAddE lim e L (putL N)) (wAddL lim e L (putL N)) ∧ Below g w w' := by
 have H := Lib.hid h
 have hp : (putL N).length ≤ 1048576 := by have := putL_len N 9 (by omega); omega
 have HP := Lib.hid hp
 obtain ⟨E, hE⟩ : ∃ E, E = wAddE lim e L (putL N) := ⟨_, rfl⟩
 obtain ⟨M, hM⟩ : ∃ M, M = wAddL lim e L (putL N) := ⟨_, rfl⟩
 rw [← hE, ← hM]
 have HE := Lib.hid (And.intro hE hM)
 clear h hE hM hp
 go_enter Tryz.func98, Tryz.ntmps98
 go_wp2_with fail
 refine (cPut_any N hN _).mono ?_
 rintro r w1 ⟨v, rfl, h1, hx1⟩
 obtain ⟨A1, c1, rfl, s1⟩ := own_parts h1
 have C := cadd_any g lim e L (putL N) A1 (putL N).length c1 w1 (H.out.keep hx1) s1 HP.out
 rw [← HE.out.1, ← HE.out.2] at C
 replace C := Lib.hid C
 have X1 := Lib.hid (And.intro hx1 H.out.lt)
 clear h1 s1 hx1
 go_wp2_with fail
 refine C.out.mono ?_
 rintro r w2 ⟨rfl, hw2, hb2⟩
 have W2 := Lib.hid (And.intro hw2 hb2)
 clear hw2 hb2 C
 go_wp2_with fail
 go_ret
 exact ⟨rfl, W2.out.1, (X1.out.1.mono (by have := X1.out.2; omega)).trans W2.out.2⟩
def wNE (lim err : Int) (L : List Nat) (n : Int) : Int := if err = 0 then (if n < 0 then 3 else wAddE lim 0 L (putL n.toNat)) else err
def wNL (lim err : Int) (L : List Nat) (n : Int) : List Nat := if err = 0 then (if n < 0 then L else wAddL lim 0 L (putL n.toNat)) else L
theorem cWN_pos (g : Nat) (lim : Int) (L : List Nat) (N : Nat) (hN : N < 9223372036854775808) (w : World) (h : Wr w g lim 0 L) :
  Calls Tryz.prog 96 #[.pointer (some ⟨g, 0, none⟩), .int .i64 (N : Int)] w fun r w' => r = .returned (.int .i64 (wAddE lim 0 L (putL N))) ∧ Wr w' g lim (wAddE lim 0 L (putL N)) (wAddL lim 0 L (putL N)) ∧ Below g w w' := by
 have H2 := h.c2
 have H3 := h.c3
 have C := Lib.hid (cWU_any g lim 0 L N (by omega) w h)
 have hd : decide (0 ≤ (N : Int)) = true := decide_eq_true (by omega)
 have hN2 : (N : Int) < 9223372036854775808 := by omega
 generalize wAddE lim 0 L (putL N) = E at C
 generalize wAddL lim 0 L (putL N) = M at C
 clear h hN
 go_enter Tryz.func96, Tryz.ntmps96
 go_wp2_with fail
 refine (cstate_any g 0 _ H2 H3).mono ?_
 rintro r w1 ⟨rfl, rfl⟩
 go_wp2_with fail
 refine C.out.mono ?_
 rintro r w2 ⟨rfl, hw2, hb2⟩
 have W2 := Lib.hid (And.intro hw2 hb2)
 clear hw2 hb2 C
 go_wp2_with fail
 go_ret
 exact ⟨rfl, W2.out.1, W2.out.2⟩
theorem cNewWriter_any (lim : Int) (h0 : 0 ≤ lim) (h1 : lim ≤ 1048576) (w : World) :
  Calls Tryz.prog 95 #[.int .i64 lim] w fun r w' => r = .returned (.tuple #[.pointer (some ⟨w.heap.size, 0, none⟩), .int .i64 0]) ∧ Wr w' w.heap.size lim 0 [] ∧ Ext w w' := by
 have hn : ¬ lim < 0 := by omega
 have hm : ¬ (1048576 : Int) < lim := by omega
 go_enter Tryz.func95, Tryz.ntmps95
 go_wp2
 go_ret2
 exact ⟨rfl, ⟨⟨none, 0, by simp [go_sem], World.ownsRow_nil _ _ _ _⟩, by simp [go_sem], by simp [go_sem], by simp [go_sem], by simp [go_sem], by simp [go_sem], by simp, by simp, h0, h1⟩, zSlTbk1_2⟩
theorem cClone_nil (w : World) :
  Calls Tryz.prog 161 #[.slice none 0 0] w fun r w' => r = .returned (.slice none 0 0) ∧ w = w' := by
 have q22 : ∀ (w : World) (a : Option Addr) (n c n' c' : Nat), (binOp .eql 90 (.slice a n c) (.slice none n' c')).run Tryz.prog w = .ok (.bool a.isNone) w := fun w a n c n' c' => Go.Lib.run_eql_slice_nil w _ _ a n c n' c' Tryz.underlying90
 go_enter Tryz.func161, Tryz.ntmps161
 go_wp2
 go_ret
 exact ⟨rfl, rfl⟩
theorem cClone_some (a : Addr) (n c : Nat) (L : List Nat) (w : World) (h : Sl w 1 (some a) n c (by_ L)) (hn : n < 1099511627776) :
  Calls Tryz.prog 161 #[.slice (some a) n c] w (ByRet L w) := by
 obtain ⟨i0, hi, hz0, hz1, hz2⟩ := info_parts u8_info
 have hL : L.length = n := by have := h.len; rw [by_len] at this; omega
 have HS := Lib.hid h
 have HL := Lib.hid hL
 clear h hL
 have q22 : ∀ (w : World) (a : Option Addr) (n c n' c' : Nat), (binOp .eql 90 (.slice a n c) (.slice none n' c')).run Tryz.prog w = .ok (.bool a.isNone) w := fun w a n c n' c' => Go.Lib.run_eql_slice_nil w _ _ a n c n' c' Tryz.underlying90
 go_enter Tryz.func161, Tryz.ntmps161
 go_wp2_with (at_builtin; refine wpList_append_sl (w.alloc (.cells #[] 5)) rfl _ _ 90 rfl w.heap.size 5 i0 (.int .u8 0) 1 1 Tryz.underlying90 hi hz0 hz1 hz2 rfl (by decide) _ 0 [] (by rfl) (own_empty w _ _) (some a) n c (by_ L) (by rfl) (HS.out.ext ((Ext.refl _).alloc _)) by_one (by omega) (by decide) (by simp) ?_; intro v1 w1 hown1 hb1; simp only [Nat.zero_add, List.nil_append] at hown1; have H := Lib.hid (show ByRet L w (.returned v1) w1 from ⟨v1, rfl, by rw [HL.out]; exact hown1, ((Ext.refl w).alloc (.cells #[] 5)).below hb1⟩); clear hown1 hb1)
 go_ret
 exact H.out
theorem cClone_any (A : Option Addr) (c : Nat) (L : List Nat) (w : World) (h : Sl w 1 A L.length c (by_ L)) (hn : L.length < 1099511627776) (hnil : A = none → c = 0) :
  Calls Tryz.prog 161 #[.slice A L.length c] w (ByRet L w) := by
 rcases A with _ | a
 ·have hc := hnil rfl
  subst hc
  have h0 : L.length = 0 := by
   rcases Nat.eq_zero_or_pos L.length with h0 | h0
   ·exact h0
   obtain ⟨_, _, hh, _⟩ := h.at_ h0; cases hh
  have hL : L = [] := List.eq_nil_of_length_eq_zero h0
  subst hL
  refine (cClone_nil w).mono ?_
  rintro e w' ⟨rfl, rfl⟩
  exact ⟨_, rfl, World.ownsRow_nil _ _ _ _, Ext.refl _⟩
 exact cClone_some a L.length c L w h hn
def ByErr (L : List Nat) (er : Int) (w : World) (e : Ending) (w' : World) : Prop := ∃ v, e = .returned (.tuple #[v, .int .i64 er]) ∧ w'.ownsRow w.heap.size 5 1 v L.length (by_ L) ∧ Ext w w'
theorem cDone_any (g : Nat) (lim e : Int) (L : List Nat) (w : World) (h : Wr w g lim e L) :
  Calls Tryz.prog 99 #[.pointer (some ⟨g, 0, none⟩)] w (ByErr (if e = 0 then L else []) e w) := by
 have H2 := h.c2
 have H3 := h.c3
 obtain ⟨A, c, H0, hown⟩ := h.b
 by_cases he : e = 0
 ·subst he
  rw [if_pos rfl]
  have hs := Sl.own hown
  have hnil : A = none → c = 0 := by
   intro hA
   subst hA
   rcases hown.2 with ⟨h', _⟩ | ⟨g', cap, cur, h', _⟩
   ·injection h'
   injection h' with h1; cases h1
  have C := Lib.hid (cClone_any A c L w hs (by have := h.short; omega) hnil)
  clear h hown hs hnil
  go_enter Tryz.func99, Tryz.ntmps99
  go_wp2_with fail
  refine (cstate_any g 0 _ H2 H3).mono ?_
  rintro r w1 ⟨rfl, rfl⟩
  go_wp2_with fail
  refine C.out.mono ?_
  rintro r w1 ⟨v, rfl, h1, h2⟩
  have H := Lib.hid (show ByErr L 0 w (.returned (.tuple #[v, .int .i64 0])) w1 from ⟨v, rfl, h1, h2⟩)
  clear h1 h2 C
  go_wp2_with fail
  go_ret2
  exact H.out
 rw [if_neg he]
 have hef : (e == 0) = false := beq_false_of_ne he
 have H : Hid (ByErr [] e w (.returned (.tuple #[.slice none 0 0, .int .i64 e])) w) := Lib.hid ⟨_, rfl, World.ownsRow_nil _ _ _ _, Ext.refl _⟩
 clear h hown he
 go_enter Tryz.func99, Tryz.ntmps99
 go_wp2_with fail
 refine (cstate_any g e _ H2 H3).mono ?_
 rintro r w1 ⟨rfl, rfl⟩
 go_wp2_with fail
 go_ret2
 exact H.out
def numGo : List Nat → Nat → Nat → Nat × Nat × Int
 | [], _, _ => (0, 0, 6)
 | c :: l, i, acc => if (i = 9 ∧ 1 < c) ∨ (0 < i ∧ c = 0) then (0, 0, 5) else if c < 128 then (acc + c % 128 * 2 ^ (7 * i), i + 1, 0) else numGo l (i + 1) (acc + c % 128 * 2 ^ (7 * i))
theorem numGo_drop {L : List Nat} {k acc : Nat} (h : k < L.length) : numGo (L.drop k) k acc =
  if (k = 9 ∧ 1 < L.getD k 0) ∨ (0 < k ∧ L.getD k 0 = 0) then (0, 0, 5) else if L.getD k 0 < 128 then (acc + L.getD k 0 % 128 * 2 ^ (7 * k), k + 1, 0) else numGo (L.drop (k + 1)) (k + 1) (acc + L.getD k 0 % 128 * 2 ^ (7 * k)) := by
 rw [List.drop_eq_getElem_cons h, numGo, List.getD_eq_getElem?_getD, List.getElem?_eq_getElem h]
 rfl
theorem and_all : ∀ r : Fin 256, bits .and .u8 (r.1 : Int) 127 = ((r.1 % 128 : Nat) : Int) := by decide +kernel
theorem and_byte (c : Nat) (h : c < 256) : bits .and .u8 (c : Int) 127 = ((c % 128 : Nat) : Int) := and_all ⟨c, h⟩
theorem pow7_le {k : Nat} (h : k ≤ 9) : 2 ^ (7 * k) ≤ 9223372036854775808 := Nat.le_trans (Nat.pow_le_pow_right (by decide) (show 7 * k ≤ 63 by omega)) (by decide)
theorem acc_step {acc c k : Nat} (ha : acc < 2 ^ (7 * k)) (hc : c < 128) : acc + c * 2 ^ (7 * k) < 2 ^ (7 * (k + 1)) := by
 have e : 2 ^ (7 * (k + 1)) = 2 ^ (7 * k) * 128 := by rw [show 7 * (k + 1) = 7 * k + 7 from by omega, Nat.pow_add]
 rw [e]
 have : c * 2 ^ (7 * k) ≤ 127 * 2 ^ (7 * k) := Nat.mul_le_mul_right _ (by omega)
 omega
theorem acc_small {acc c k : Nat} (ha : acc < 2 ^ (7 * k)) (hk : k ≤ 9) (hc : c < 128) (h9 : k = 9 → c ≤ 1) : c * 2 ^ (7 * k) < 18446744073709551616 ∧ acc + c * 2 ^ (7 * k) < 18446744073709551616 := by
 have hp := pow7_le hk
 rcases Nat.lt_or_ge k 9 with h | h
 ·have h1 := acc_step ha hc
  have h2 := pow7_le (k := k + 1) (by omega)
  omega
 obtain rfl : k = 9 := by omega
 have h1 := h9 rfl
 have h2 : c * 2 ^ (7 * 9) ≤ 1 * 2 ^ (7 * 9) := Nat.mul_le_mul_right _ h1
 omega
theorem or_acc {acc c k : Nat} (ha : acc < 2 ^ (7 * k)) (h1 : acc < 18446744073709551616) (h2 : c * 2 ^ (7 * k) < 18446744073709551616) : bits .or .u64 (acc : Int) ((c * 2 ^ (7 * k) : Nat) : Int) = ((acc + c * 2 ^ (7 * k) : Nat) : Int) := by
 rw [bits_or_u64_nat _ _ h1 h2]
 congr 1
 have := Nat.two_pow_add_eq_or_of_lt ha c
 rw [Nat.or_comm, Nat.mul_comm c, ← this]
 omega
theorem num_val {acc c k : Nat} (ha : acc < 2 ^ (7 * k)) (h : c % 128 * 2 ^ (7 * k) < 18446744073709551616 ∧ acc + c % 128 * 2 ^ (7 * k) < 18446744073709551616) :
  bits .or .u64 (acc : Int) (IntKind.u64.wrap ((c : Int) % 128 * 2 ^ (7 * k))) = ((acc + c % 128 * 2 ^ (7 * k) : Nat) : Int) := by
 have e : ((c : Int) % 128 * 2 ^ (7 * k)) = ((c % 128 * 2 ^ (7 * k) : Nat) : Int) := by simp
 rw [e, show IntKind.u64.wrap ((c % 128 * 2 ^ (7 * k) : Nat) : Int) = ((c % 128 * 2 ^ (7 * k) : Nat) : Int) from by rw [IntKind.wrap_u64]; omega]
 exact or_acc ha (by omega) h.1
theorem ret3 {k l m : IntKind} {a b c a' b' c' : Int} (h1 : a = a') (h2 : b = b') (h3 : c = c') : Ending.returned (.tuple #[.int k a, .int l b, .int m c]) = .returned (.tuple #[.int k a', .int l b', .int m c']) := by rw [h1, h2, h3]
theorem by_get (L : List Nat) (j : Nat) (h : j < L.length) : (by_ L)[j]? = some (.int .u8 ((L.getD j 0 : Nat) : Int)) := by
 unfold by_
 rw [List.getElem?_map, List.getD_eq_getElem?_getD, List.getElem?_eq_getElem h]
 rfl
theorem cnumber_any (A : Option Addr) (n c : Nat) (L : List Nat) (w : World) (h : Sl w 1 A n c (by_ L)) (hB : Byt L) :
  Calls Tryz.prog 166 #[.slice A n c] w fun r w' => r = .returned (.tuple #[.int .u64 ((numGo L 0 0).1 : Int), .int .i64 ((numGo L 0 0).2.1 : Int), .int .i64 (numGo L 0 0).2.2]) ∧ w = w' := by
 have hs := h.small
 have hL : L.length = n := by have := h.len; rw [by_len] at this; omega
 obtain ⟨V, hV⟩ : ∃ V, V = numGo L 0 0 := ⟨_, rfl⟩
 rw [← hV]
 have HV := Lib.hid hV
 have HL := Lib.hid hL
 have HS := Lib.hid h
 have HB := Lib.hid hB
 clear hV hL h hB
 go_enter Tryz.func166, Tryz.ntmps166
 go_wp2
 go_loopg [5, 10] n (fun g a i wx => g ≤ n ∧ n - g ≤ 9 ∧ ∃ acc : Nat, Hid (V = numGo (L.drop (n - g)) (n - g) acc ∧ acc < 2 ^ (7 * (n - g))) ∧ acc < 18446744073709551616 ∧ a = .int .u64 (acc : Int) ∧ i = .int .i64 ((n - g : Nat) : Int) ∧ wx = w)
 case atStart => exact ⟨Nat.le_refl _, by omega, 0, ⟨by rw [Nat.sub_self]; exact HV.out, by rw [Nat.sub_self]; decide⟩, by decide, rfl, by simp, rfl⟩
 obtain ⟨hg, hg9, acc, H, ha, rfl, hi, rfl⟩ := hrel
 obtain ⟨k, hk⟩ : ∃ k, k = n - gk := ⟨_, rfl⟩
 rw [← hk] at H hi hg9
 subst hi
 by_cases hz : gk = 0
 ·have hkn : ¬ (k : Int) < n := by omega
  have e : V = (0, 0, 6) := by
   rw [H.out.1, List.drop_eq_nil_of_le (by have := HL.out; omega)]; rfl
  subst e
  clear H hz hg hk hg9
  go_wp2
  exact bodyPost_ret zSlTbk1_8 rfl ⟨rfl, rfl⟩
 have hkn : (k : Int) < n := by omega
 obtain ⟨b, o, rfl, hb, hc⟩ := HS.out.at_ (show 0 < n from by omega)
 have hkl : k < L.length := by have := HL.out; omega
 have hc1 := hc k _ (by_get L k hkl)
 have hx := numGo_drop (L := L) (k := k) (acc := acc) hkl
 have hcb := HB.out.get k
 obtain ⟨c, hcc⟩ : ∃ c, c = L.getD k 0 := ⟨_, rfl⟩
 rw [← hcc] at hc1 hx hcb
 rw [← H.out.1] at hx
 have HX := Lib.hid hx
 have HK := Lib.hid (And.intro hk (And.intro hg hz))
 clear hx hcc hc hk hg hz
 have hcI : (0 : Int) ≤ (c : Int) := by omega
 have hcJ : (c : Int) < 256 := by omega
 have hk0 : (0 : Int) ≤ (k : Int) := by omega
 have hk9 : (k : Int) ≤ 9 := by omega
 by_cases hA : k = 9 ∧ 1 < c
 ·have e : V = (0, 0, 5) := by rw [HX.out, if_pos (.inl hA)]
  subst e
  have p1 : ((k : Int) == 9) = true := by simp [hA.1]
  have p2 : decide (1 < (c : Int)) = true := decide_eq_true (by omega)
  clear hA H HX
  go_wp2
  exact bodyPost_ret zSlTbk1_8 rfl ⟨rfl, rfl⟩
 by_cases hB : 0 < k ∧ c = 0
 ·have e : V = (0, 0, 5) := by rw [HX.out, if_pos (.inr hB)]
  subst e
  have p3 : decide (0 < (k : Int)) = true := decide_eq_true (by omega)
  have q3 : decide (0 < k) = true := decide_eq_true (by omega)
  have hc2 : wr.cell? ⟨b, o + k, none⟩ = some (.int .u8 0) := by rw [hc1, hB.2]; rfl
  clear hA hB H HX hc1 hcI hcJ hcb
  by_cases p : k = 9
  ·have p1 : ((k : Int) == 9) = true := by simp [p]
   clear p
   go_wp2
   exact bodyPost_ret zSlTbk1_8 rfl ⟨rfl, rfl⟩
  have p1 : ((k : Int) == 9) = false := by simp; omega
  clear p
  go_wp2
  exact bodyPost_ret zSlTbk1_8 rfl ⟨rfl, rfl⟩
 have hx := HX.out
 rw [if_neg (by omega)] at hx
 have hsm := acc_small (c := c % 128) H.out.2 hg9 (by omega) (by omega)
 have HA := Lib.hid H.out.2
 have HSM := Lib.hid hsm
 have HX2 := Lib.hid hx
 have e1 := and_byte c hcb
 have hc7 : ((c % 128 : Nat) : Int) < 128 := by omega
 have H9 := Lib.hid (show k = 9 → c < 128 from fun hh => by omega)
 have hcases : k = 0 ∨ (¬ k = 9 ∧ 0 < k ∧ ¬ c = 0) ∨ (k = 9 ∧ c = 1) := by omega
 clear hA hB H HX hx hsm
 rcases hcases with hk1 | ⟨hk1, hk2, hc3⟩ | ⟨hk1, hc3⟩
 ·have p1 : ((k : Int) == 9) = false := by simp; omega
  have p3 : decide (0 < (k : Int)) = false := by simp; omega
  have q3 : decide (0 < k) = false := by simp; omega
  clear hk1
  by_cases h8 : (c : Int) < 128
  ·have hv := HX2.out
   rw [if_pos (by omega)] at hv
   replace hv := Lib.hid hv
   go_wp2
   refine bodyPost_ret (v := .tuple #[.int .u64 (bits .or .u64 (acc : Int) (IntKind.u64.wrap ((c : Int) % 128 * 2 ^ (7 * k)))), .int .i64 ((k : Int) + 1), .int .i64 0]) zSlTbk1_8 rfl ⟨ret3 ?_ ?_ ?_, rfl⟩
   ·rw [hv.out]; exact num_val HA.out HSM.out
   ·rw [hv.out]; simp
   rw [hv.out]
  have hv := HX2.out
  rw [if_neg (by omega)] at hv
  replace hv := Lib.hid hv
  go_wp2
  go_roundg (gk - 1)
  case measure => have := HK.out; omega
  have e2 : n - (gk - 1) = k + 1 := by have := HK.out; omega
  have h9 : ¬ k = 9 := by intro hh; have := H9.out hh; omega
  exact ⟨by have := HK.out; omega, by omega, acc + c % 128 * 2 ^ (7 * k), by rw [e2]; exact Lib.hid ⟨hv.out, acc_step HA.out (by omega)⟩, HSM.out.2, num_eq (num_val HA.out HSM.out), num_eq (by rw [e2]; simp), rfl⟩
 ·have p1 : ((k : Int) == 9) = false := by simp; omega
  have p3 : decide (0 < (k : Int)) = true := by simp; omega
  have q3 : decide (0 < k) = true := by simp; omega
  have p4 : ((c : Int) == 0) = false := by simp; omega
  clear hk1 hc3
  by_cases h8 : (c : Int) < 128
  ·have hv := HX2.out
   rw [if_pos (by omega)] at hv
   replace hv := Lib.hid hv
   go_wp2
   refine bodyPost_ret (v := .tuple #[.int .u64 (bits .or .u64 (acc : Int) (IntKind.u64.wrap ((c : Int) % 128 * 2 ^ (7 * k)))), .int .i64 ((k : Int) + 1), .int .i64 0]) zSlTbk1_8 rfl ⟨ret3 ?_ ?_ ?_, rfl⟩
   ·rw [hv.out]; exact num_val HA.out HSM.out
   ·rw [hv.out]; simp
   rw [hv.out]
  have hv := HX2.out
  rw [if_neg (by omega)] at hv
  replace hv := Lib.hid hv
  go_wp2
  go_roundg (gk - 1)
  case measure => have := HK.out; omega
  have e2 : n - (gk - 1) = k + 1 := by have := HK.out; omega
  have h9 : ¬ k = 9 := by intro hh; have := H9.out hh; omega
  exact ⟨by have := HK.out; omega, by omega, acc + c % 128 * 2 ^ (7 * k), by rw [e2]; exact Lib.hid ⟨hv.out, acc_step HA.out (by omega)⟩, HSM.out.2, num_eq (num_val HA.out HSM.out), num_eq (by rw [e2]; simp), rfl⟩
 have p1 : ((k : Int) == 9) = true := by simp; omega
 have p2 : decide (1 < (c : Int)) = false := by simp; omega
 have q2 : decide (1 < c) = false := by simp; omega
 have p3 : decide (0 < (k : Int)) = true := by simp; omega
 have q3 : decide (0 < k) = true := by simp; omega
 have p4 : ((c : Int) == 0) = false := by simp; omega
 clear hk1 hc3
 by_cases h8 : (c : Int) < 128
 ·have hv := HX2.out
  rw [if_pos (by omega)] at hv
  replace hv := Lib.hid hv
  go_wp2
  refine bodyPost_ret (v := .tuple #[.int .u64 (bits .or .u64 (acc : Int) (IntKind.u64.wrap ((c : Int) % 128 * 2 ^ (7 * k)))), .int .i64 ((k : Int) + 1), .int .i64 0]) zSlTbk1_8 rfl ⟨ret3 ?_ ?_ ?_, rfl⟩
  ·rw [hv.out]; exact num_val HA.out HSM.out
  ·rw [hv.out]; simp
  rw [hv.out]
 have hv := HX2.out
 rw [if_neg (by omega)] at hv
 replace hv := Lib.hid hv
 go_wp2
 go_roundg (gk - 1)
 case measure => have := HK.out; omega
 have e2 : n - (gk - 1) = k + 1 := by have := HK.out; omega
 have h9 : ¬ k = 9 := by intro hh; have := H9.out hh; omega
 exact ⟨by have := HK.out; omega, by omega, acc + c % 128 * 2 ^ (7 * k), by rw [e2]; exact Lib.hid ⟨hv.out, acc_step HA.out (by omega)⟩, HSM.out.2, num_eq (num_val HA.out HSM.out), num_eq (by rw [e2]; simp), rfl⟩
theorem cnone_any (g : Nat) (w : World) (h2 : w.cell? ⟨g, 2, none⟩ = some (.bool true)) :
  Calls Tryz.prog 167 #[.pointer (some ⟨g, 0, none⟩)] w fun r w' => r = .returned (.bool false) ∧ w = w' := by
 go_enter Tryz.func167, Tryz.ntmps167
 go_wp2
 go_ret
 exact ⟨rfl, rfl⟩
theorem cFail_old (g k : Nat) (L : List Nat) (x : Int × Int) (e a : Int) (w : World) (h : Rd w g L k (some x)) :
  Calls Tryz.prog 111 #[.pointer (some ⟨g, 0, none⟩), .int .i64 e, .int .i64 a] w fun r w' => (∃ v, r = .returned v) ∧ w = w' := by
 have H2 := h.c2
 obtain ⟨v, H3, fb, rfl, _⟩ := h.c3
 clear h
 go_enter Tryz.func111, Tryz.ntmps111
 go_wp2_with fail
 refine (cnone_any g _ H2).mono ?_
 rintro r w1 ⟨rfl, rfl⟩
 go_wp2
 go_end0
 exact ⟨⟨_, rfl⟩, rfl⟩
theorem cFail_zero (g k : Nat) (L : List Nat) (a : Int) (w : World) (h : Rd w g L k none) :
  Calls Tryz.prog 111 #[.pointer (some ⟨g, 0, none⟩), .int .i64 0, .int .i64 a] w fun r w' => (∃ v, r = .returned v) ∧ w = w' := by
 have H2 := h.c2
 obtain ⟨v, H3, rfl⟩ := h.c3
 clear h
 go_enter Tryz.func111, Tryz.ntmps111
 go_wp2_with fail
 refine (cnone_any g _ H2).mono ?_
 rintro r w1 ⟨rfl, rfl⟩
 go_wp2
 go_end0
 exact ⟨⟨_, rfl⟩, rfl⟩
theorem cFail_new (g k : Nat) (L : List Nat) (e a : Int) (he : ¬ e = 0) (w : World) (h : Rd w g L k none) :
  Calls Tryz.prog 111 #[.pointer (some ⟨g, 0, none⟩), .int .i64 e, .int .i64 a] w fun r w' => (∃ v, r = .returned v) ∧ Rd w' g L k (some (e, a)) ∧ But (· = g) w w' := by
 have H2 := h.c2
 obtain ⟨v, H3, rfl⟩ := h.c3
 have F3 := h.f3
 have lt := h.lt
 have HH := Lib.hid h
 have h1 : (e != 0) = true := by simpa using he
 have h2 : (e == 0) = false := by simpa using he
 clear h he
 go_enter Tryz.func111, Tryz.ntmps111
 go_wp2_with fail
 refine (cnone_any g _ H2).mono ?_
 rintro r w1 ⟨rfl, rfl⟩
 go_wp2
 go_end0
 have hh := HH.out
 obtain ⟨A, c, q0, q1, q2⟩ := hh.b
 have hb := (Below.refl (w.setCell ⟨g, 3, none⟩ (.pointer (some ⟨w.heap.size, 0, none⟩))).heap.size (w.setCell ⟨g, 3, none⟩ (.pointer (some ⟨w.heap.size, 0, none⟩)))).alloc (Nat.le_refl _) (.cells #[.int .i64 e, .int .i64 a] 95)
 have hz : (w.setCell ⟨g, 3, none⟩ (.pointer (some ⟨w.heap.size, 0, none⟩))).heap.size = w.heap.size := by simp
 have cl : ∀ o, _ = (w.setCell ⟨g, 3, none⟩ (.pointer (some ⟨w.heap.size, 0, none⟩))).cell? ⟨g, o, none⟩ := fun o => hb.cell (p := ⟨g, o, none⟩) (by rw [hz]; exact lt)
 have fl : ∀ o, _ = (w.setCell ⟨g, 3, none⟩ (.pointer (some ⟨w.heap.size, 0, none⟩))).frozen? ⟨g, o, none⟩ := fun o => hb.frozen (p := ⟨g, o, none⟩) (by rw [hz]; exact lt)
 refine ⟨⟨_, rfl⟩, ⟨⟨A, c, (cl 0).trans ((cell_set_other (.inr (by decide))).trans q0), (q1.setOther q2).ext hb, q2⟩, (cl 1).trans ((cell_set_other (.inr (by decide))).trans hh.c1), (cl 2).trans ((cell_set_other (.inr (by decide))).trans hh.c2), ⟨_, (cl 3).trans (World.cell?_setCell_same' _ _ _ (by rw [H3]; rfl)), w.heap.size, rfl, ⟨lt, by simp⟩, ?_, ?_, ?_⟩, (fl 1).trans (by rw [World.frozen?_setCell]; exact hh.f1), (fl 3).trans (by rw [World.frozen?_setCell]; exact hh.f3), by simp; omega, hh.le, hh.byt⟩, ((But.refl (· = g) w).setCell (p := ⟨g, 3, none⟩) (show g = g from rfl) _).alloc _⟩
 ·simp [go_sem]
 ·simp [go_sem]
 exact ⟨_, _, by have := World.alloc_heap_new (w.setCell ⟨g, 3, none⟩ (.pointer (some ⟨w.heap.size, 0, none⟩))) (.cells #[.int .i64 e, .int .i64 a] 95); rwa [hz] at this⟩
theorem cFail_any (g k : Nat) (L : List Nat) (flt : Option (Int × Int)) (e a : Int) (w : World) (h : Rd w g L k flt) :
  Calls Tryz.prog 111 #[.pointer (some ⟨g, 0, none⟩), .int .i64 e, .int .i64 a] w fun r w' => (∃ v, r = .returned v) ∧ Rd w' g L k (failF flt e a) ∧ But (· = g) w w' := by
 rcases flt with _ | x
 ·by_cases he : e = 0
  ·subst he
   refine (cFail_zero g k L a w h).mono ?_
   rintro r w' ⟨h1, rfl⟩
   exact ⟨h1, h, But.refl _ _⟩
  have e1 : failF none e a = some (e, a) := if_neg he
  rw [e1]
  exact cFail_new g k L e a he w h
 refine (cFail_old g k L x e a w h).mono ?_
 rintro r w' ⟨h1, rfl⟩
 exact ⟨h1, h, But.refl _ _⟩
theorem cNewReader_any (A : Option Addr) (c : Nat) (L : List Nat) (hB : Byt L) (w : World) (h : Sl w 1 A L.length c (by_ L)) (hn : L.length < 1099511627776) (hnil : A = none → c = 0) :
  Calls Tryz.prog 105 #[.slice A L.length c] w fun r w' => ∃ g, r = .returned (.pointer (some ⟨g, 0, none⟩)) ∧ w.heap.size ≤ g ∧ Rd w' g L 0 none ∧ Ext w w' := by
 have C := Lib.hid (cClone_any A c L w h hn hnil)
 have HB := Lib.hid hB
 clear h hnil hB
 go_enter Tryz.func105, Tryz.ntmps105
 go_wp2_with fail
 refine C.out.mono ?_
 rintro r w1 ⟨v, rfl, h1, h2⟩
 obtain ⟨A1, c1, rfl, s1⟩ := own_parts h1
 have hlt : ∀ b o s, A1 = some ⟨b, o, s⟩ → b < w1.heap.size := by
  intro b o s e
  subst e
  exact h1.lt b rfl |>.2
 have H := Lib.hid (And.intro h1 (And.intro h2 (And.intro s1 hlt)))
 clear h1 h2 C s1 hlt
 go_wp2_with fail
 go_ret
 obtain ⟨h1, h2, s1, hlt⟩ := H.out
 have hz := h2.size
 exact ⟨w1.heap.size, rfl, hz, ⟨⟨A1, c1, by simp [go_sem], s1.ext ((Ext.refl _).alloc _), hlt⟩, by simp [go_sem], by simp [go_sem], ⟨_, by simp [go_sem], rfl⟩, by simp [go_sem], by simp [go_sem], by simp, Nat.zero_le _, HB.out⟩, h2.alloc _⟩
theorem wrap64_eq (n : Int) : wrap64 n = IntKind.i64.wrap n := by
 rw [IntKind.wrap_i64]
 unfold wrap64
 rfl
def bndE (e n least most : Int) : Int := if e = 0 then (if most < n ∨ (0 < least ∧ n < least) then 3 else 0) else e
theorem cRN1_any (A : Option Addr) (m c : Nat) (V : Value) (n k e : Int) (n0 : 0 ≤ n) (n1 : n < 18446744073709551616) (mb lb : Nat) (least most : Int) (h0 : 0 ≤ least) (h1 : least ≤ 9223372036854775807) (h2 : 0 ≤ most) (h3 : most ≤ 9223372036854775807) (w : World)
  (C : Hid (Calls Tryz.prog 166 #[.slice A m c] w fun r w' => r = .returned (.tuple #[.int .u64 n, .int .i64 k, .int .i64 e]) ∧ w = w')) (cm : w.cell? ⟨mb, 0, none⟩ = some (.int .i64 most)) (cl : w.cell? ⟨lb, 0, none⟩ = some (.int .i64 least)) :
  Calls Tryz.prog 165 #[.slice A m c, .pointer (some ⟨mb, 0, none⟩), .pointer (some ⟨lb, 0, none⟩)] w fun r w' => r = .returned (.tuple #[.int .i64 (IntKind.i64.wrap n), .int .i64 k, .int .i64 (bndE e n least most)]) ∧ w = w' := by
 unfold bndE
 by_cases he : e = 0
 ·subst he
  rw [if_pos rfl]
  have hmf : decide (most < 0) = false := decide_eq_false (by omega)
  by_cases hm : most < n
  ·rw [if_pos (.inl hm)]
   go_enter Tryz.func165, Tryz.ntmps165
   go_wp2_with fail
   refine C.out.mono ?_
   rintro r w1 ⟨rfl, rfl⟩
   go_wp2
   exact bodyPost_ret (v := .tuple #[.int .i64 (IntKind.i64.wrap n), .int .i64 k, .int .i64 3]) zSlTbk1_3 rfl ⟨rfl, rfl⟩
  by_cases hl : 0 < least
  ·by_cases hn : n < least
   ·rw [if_pos (.inr ⟨hl, hn⟩)]
    go_enter Tryz.func165, Tryz.ntmps165
    go_wp2_with fail
    refine C.out.mono ?_
    rintro r w1 ⟨rfl, rfl⟩
    go_wp2
    exact bodyPost_ret (v := .tuple #[.int .i64 (IntKind.i64.wrap n), .int .i64 k, .int .i64 3]) zSlTbk1_3 rfl ⟨rfl, rfl⟩
   rw [if_neg (by omega)]
   go_enter Tryz.func165, Tryz.ntmps165
   go_wp2_with fail
   refine C.out.mono ?_
   rintro r w1 ⟨rfl, rfl⟩
   go_wp2
   exact bodyPost_ret (v := .tuple #[.int .i64 (IntKind.i64.wrap n), .int .i64 k, .int .i64 0]) zSlTbk1_3 rfl ⟨rfl, rfl⟩
  rw [if_neg (by omega)]
  go_enter Tryz.func165, Tryz.ntmps165
  go_wp2_with fail
  refine C.out.mono ?_
  rintro r w1 ⟨rfl, rfl⟩
  go_wp2
  exact bodyPost_ret (v := .tuple #[.int .i64 (IntKind.i64.wrap n), .int .i64 k, .int .i64 0]) zSlTbk1_3 rfl ⟨rfl, rfl⟩
 rw [if_neg he]
 have hef : (e == 0) = false := beq_false_of_ne he
 go_enter Tryz.func165, Tryz.ntmps165
 go_wp2_with fail
 refine C.out.mono ?_
 rintro r w1 ⟨rfl, rfl⟩
 go_wp2
 exact bodyPost_ret (v := .tuple #[.int .i64 (IntKind.i64.wrap n), .int .i64 k, .int .i64 e]) zSlTbk1_3 rfl ⟨rfl, rfl⟩
theorem sizeOf_u8 (w : World) : (sizeOf (Tryz.prog.elem 90)).run Tryz.prog w = .ok 1 w := by
 obtain ⟨i0, hi, hz0, hz1, hz2⟩ := info_parts u8_info
 have e : Tryz.prog.elem 90 = 5 := by kernel_rfl
 rw [e]
 simp [sizeOf, typeInfo, hi, hz1]
theorem Rd.setAt {w : World} {g k : Nat} {L : List Nat} {flt : Option (Int × Int)} (h : Rd w g L k flt) (j : Nat) (hj : j ≤ L.length) : Rd (w.setCell ⟨g, 1, none⟩ (.int .i64 (j : Int))) g L j flt := by
 obtain ⟨A, c, h0, h1, h2⟩ := h.b
 obtain ⟨v, h3, h4⟩ := h.c3
 have c1 := h.c1
 refine ⟨⟨A, c, (cell_set_other (.inr (by decide))).trans h0, h1.setOther h2, h2⟩, World.cell?_setCell_same' _ _ _ (by rw [c1]; rfl), (cell_set_other (.inr (by decide))).trans h.c2, ⟨v, (cell_set_other (.inr (by decide))).trans h3, ?_⟩, by rw [World.frozen?_setCell]; exact h.f1, by rw [World.frozen?_setCell]; exact h.f3, by simpa using h.lt, hj, h.byt⟩
 match flt, h4 with
 | none, h4 => exact h4
 | some (e, a), ⟨fb, k1, k2, k3, k4, cs, z, k5⟩ => exact ⟨fb, k1, ⟨k2.1, by simpa using k2.2⟩, (cell_set_other (.inl (by omega))).trans k3, (cell_set_other (.inl (by omega))).trans k4, cs, z, (Below.heap_setCell _ _ _ _ (by simp; omega)).trans k5⟩
theorem by_drop (L : List Nat) (k : Nat) : (by_ L).drop k = by_ (L.drop k) := by unfold by_; rw [List.map_drop]
theorem Sl.bdrop {w : World} {A : Option Addr} {n c k : Nat} {L : List Nat} (h : Sl w 1 A n c (by_ L)) (hk : k ≤ n) : Sl w 1 (if c = k then A else A.map (·.add (k * 1))) (n - k) (c - k) (by_ (L.drop k)) := by
 have := h.drop hk
 rw [Nat.mul_one, by_drop] at this
 simpa using this
theorem numGo_lt : ∀ (l : List Nat) (i acc : Nat), i ≤ 9 → acc < 2 ^ (7 * i) → (numGo l i acc).1 < 18446744073709551616 ∧ (numGo l i acc).2.1 ≤ i + l.length ∧ 0 ≤ (numGo l i acc).2.2 ∧ (numGo l i acc).2.2 ≤ 6
 | [], i, acc, _, _ => by simp [numGo]
 | c :: l, i, acc, hi, ha => by
  rw [numGo]
  split
  ·simp
  ·rename_i hn
   have hs := acc_small (c := c % 128) ha hi (by omega) (by omega)
   split
   ·exact ⟨hs.2, by first | (simp; done) | (simp; omega), by simp, by simp⟩
   ·have h := numGo_lt l (i + 1) (acc + c % 128 * 2 ^ (7 * i)) (by omega) (acc_step ha (by omega))
    exact ⟨h.1, by have := h.2.1; simp; omega, h.2.2⟩
def RdP (g : Nat) (L : List Nat) (W : World) (v : Int) (k : Nat) (flt : Option (Int × Int)) (r : Ending) (w' : World) : Prop := r = .returned (.int .i64 v) ∧ Rd w' g L k flt ∧ But (· = g) W w'
theorem creadI_old (g k : Nat) (L : List Nat) (x : Int × Int) (v : Value) (w : World) (h : Rd w g L k (some x)) :
  Calls Tryz.prog 164 #[.pointer (some ⟨g, 0, none⟩), v] w fun r w' => r = .returned (.int .i64 0) ∧ w = w' := by
 have H2 := h.c2
 obtain ⟨v, H3, fb, rfl, _⟩ := h.c3
 clear h
 go_enter Tryz.func164, Tryz.ntmps164
 go_wp2_with fail
 refine (cnone_any g _ H2).mono ?_
 rintro r w1 ⟨rfl, rfl⟩
 go_wp2
 go_ret
 exact ⟨rfl, rfl⟩
theorem creadI_go (g k : Nat) (L : List Nat) (n kk e : Int) (mb lb : Nat) (W : World) (h : Rd W g L k none) (hle : 0 ≤ kk) (hk2 : (k : Int) + kk ≤ L.length) (hL : L.length < 1099511627776)
  (CN : Hid (∀ (A : Option Addr) (c : Nat) (w : World), Sl w 1 A (L.length - k) c (by_ (L.drop k)) → (∀ b, w.cell? b = W.cell? b) → Calls Tryz.prog 165 #[.slice A (L.length - k) c, .pointer (some ⟨mb, 0, none⟩), .pointer (some ⟨lb, 0, none⟩)] w fun r w' => r = .returned (.tuple #[.int .i64 n, .int .i64 kk, .int .i64 e]) ∧ w = w')) :
  Calls Tryz.prog 164 #[.pointer (some ⟨g, 0, none⟩), .func (.func 165) #[] #[.pointer (some ⟨mb, 0, none⟩), .pointer (some ⟨lb, 0, none⟩)]] W fun r w' => r = .returned (.int .i64 (if e = 0 then n else 0)) ∧ Rd w' g L (if e = 0 then k + kk.toNat else k) (failF none e k) ∧ But (· = g) W w' := by
 have H2 := h.c2
 have H1 := h.c1
 obtain ⟨v, H3, rfl⟩ := h.c3
 obtain ⟨A, c, H0, hs, _⟩ := h.b
 have hkl := h.le
 have hd := Lib.hid (hs.bdrop hkl)
 have F1 := h.f1
 have HH := Lib.hid h
 have hsm := hs.small
 have hcs : L.length ≤ c := hs.2.1
 clear h hs
 generalize hN : L.length = N at *
 replace hN := Lib.hid hN
 obtain ⟨A2, hA2⟩ : ∃ A2, A2 = (if c = k then A else A.map (·.add (k * 1))) := ⟨_, rfl⟩
 rw [← hA2] at hd
 have hsl : ∀ w, (Instr.slice 90 (.slice A N c) (some (.int .i64 (k : Int))) none none).run Tryz.prog w = .ok (.slice A2 (N - k) (c - k)) w := by
  intro w
  have hq := run_slice_l (P := Tryz.prog) (w := w) 90 A N c (by kernel_rfl) .i64 (k : Int) (by omega) (by omega)
  rw [hq, hA2]
  simp [go_sem, sizeOf_u8 w]
 replace hA2 := Lib.hid hA2
 have hkI : (k : Int) ≤ N := by omega
 by_cases he : e = 0
 ·subst he
  rw [if_pos rfl, if_pos rfl]
  show Calls _ _ _ _ (RdP g L W n (k + kk.toNat) none)
  go_enter Tryz.func164, Tryz.ntmps164
  go_wp2_with fail
  refine (cnone_any g _ H2).mono ?_
  rintro r w1 ⟨rfl, rfl⟩
  go_wp2_with fail
  go_quiet ((go_at_call 165; exact Calls.quiet_of_same ((CN.out A2 (c - k) _ (hd.out.ext ((Ext.refl _).drewN _)) (fun _ => rfl)).mono fun r w' h => ⟨h.1, h.2.symm⟩)))
  have hkk : (k : Int) + kk < 9223372036854775808 := by omega
  go_wp2
  go_ret
  refine ⟨rfl, ?_, ((But.refl (· = g) W).drewN nq).setCell (p := ⟨g, 1, none⟩) (show g = g from rfl) _⟩
  have hh := (HH.out.drewN nq).setAt (k + kk.toNat) (by rw [hN.out]; omega)
  rw [show ((k + kk.toNat : Nat) : Int) = (k : Int) + kk from by omega] at hh
  exact hh
 have hef : (e == 0) = false := beq_false_of_ne he
 rw [if_neg he, if_neg he]
 show Calls _ _ _ _ (RdP g L W 0 k (failF none e k))
 go_enter Tryz.func164, Tryz.ntmps164
 go_wp2_with fail
 refine (cnone_any g _ H2).mono ?_
 rintro r w1 ⟨rfl, rfl⟩
 go_wp2_with fail
 go_quiet ((go_at_call 165; exact Calls.quiet_of_same ((CN.out A2 (c - k) _ (hd.out.ext ((Ext.refl _).drewN _)) (fun _ => rfl)).mono fun r w' h => ⟨h.1, h.2.symm⟩)))
 have CF := Lib.hid (cFail_any g k L none e k _ (HH.out.drewN nq))
 clear he
 go_wp2_with fail
 refine CF.out.mono ?_
 rintro r w1 ⟨⟨v, rfl⟩, hr, hb⟩
 have HR := Lib.hid (And.intro hr hb)
 clear hr hb CF
 go_wp2_with fail
 go_ret
 exact ⟨rfl, HR.out.1, ((But.refl _ W).drewN nq).trans HR.out.2⟩
def rnE (L : List Nat) (k : Nat) (least most : Int) : Int := bndE (numGo (L.drop k) 0 0).2.2 ((numGo (L.drop k) 0 0).1 : Int) least most
def rnV (L : List Nat) (k : Nat) (flt : Option (Int × Int)) (least most : Int) : Int := if flt = none ∧ rnE L k least most = 0 then ((numGo (L.drop k) 0 0).1 : Int) else 0
def rnK (L : List Nat) (k : Nat) (flt : Option (Int × Int)) (least most : Int) : Nat := if flt = none ∧ rnE L k least most = 0 then k + (numGo (L.drop k) 0 0).2.1 else k
def rnF (L : List Nat) (k : Nat) (flt : Option (Int × Int)) (least most : Int) : Option (Int × Int) := if flt = none then failF none (rnE L k least most) k else flt
theorem rnE_zero {L : List Nat} {k : Nat} {least most : Int} (h : rnE L k least most = 0) : (numGo (L.drop k) 0 0).2.2 = 0 ∧ ((numGo (L.drop k) 0 0).1 : Int) ≤ most := by
 unfold rnE bndE at h
 split at h
 ·rename_i h0
  split at h
  ·omega
  exact ⟨h0, by omega⟩
 contradiction
theorem cRN_any (g k : Nat) (L : List Nat) (flt : Option (Int × Int)) (least most : Int) (h0 : 0 ≤ least) (h1 : least ≤ 9223372036854775807) (h2 : 0 ≤ most) (h3 : most ≤ 9223372036854775807) (hL : L.length < 1099511627776) (w : World) (h : Rd w g L k flt) :
  Calls Tryz.prog 106 #[.pointer (some ⟨g, 0, none⟩), .int .i64 least, .int .i64 most] w (RdP g L w (rnV L k flt least most) (rnK L k flt least most) (rnF L k flt least most)) := by
 have hmf : ∀ (fn : Fn) (first cap : Array Value) (w : World), (Instr.makeFunc fn first cap).run Tryz.prog w = .ok (.func fn first cap) w := fun _ _ _ _ => rfl
 have hb : Below w.heap.size w ((w.alloc (.cells #[.int .i64 least] 3)).alloc (.cells #[.int .i64 most] 3)) := ((Below.refl _ w).alloc (Nat.le_refl _) _).alloc (by simp) _
 have hr := h.keep hb
 have hbg : But (· = g) w ((w.alloc (.cells #[.int .i64 least] 3)).alloc (.cells #[.int .i64 most] 3)) := But.ofExt hb
 have main : Calls Tryz.prog 164 #[.pointer (some ⟨g, 0, none⟩), .func (.func 165) #[] #[.pointer (some ⟨w.heap.size + 1, 0, none⟩), .pointer (some ⟨w.heap.size, 0, none⟩)]] ((w.alloc (.cells #[.int .i64 least] 3)).alloc (.cells #[.int .i64 most] 3)) (RdP g L w (rnV L k flt least most) (rnK L k flt least most) (rnF L k flt least most)) := by
  rcases flt with _ | x
  ·have hn := numGo_lt (L.drop k) 0 0 (by decide) (by decide)
   have hc := @cnumber_any
   have hkl := h.le
   have hlen : (L.drop k).length = L.length - k := List.length_drop ..
   have C := creadI_go g k L (IntKind.i64.wrap ((numGo (L.drop k) 0 0).1 : Int)) ((numGo (L.drop k) 0 0).2.1 : Int) (rnE L k least most) (w.heap.size + 1) w.heap.size _ hr (by omega) (by have := hn.2.1; omega) hL
    (Lib.hid fun A c w' hs hcell => by
     have hq : (L.length - k) = (L.drop k).length := hlen.symm
     refine cRN1_any A _ c (.bool true) _ _ _ (by omega) (by omega) (w.heap.size + 1) w.heap.size least most h0 h1 h2 h3 w' (Lib.hid ?_) ?_ ?_
     ·exact cnumber_any A (L.length - k) c (L.drop k) w' hs (h.byt.drop k)
     ·rw [hcell]; simp [go_sem]
     ·rw [hcell]; simp [go_sem])
   refine C.mono ?_
   rintro r w' ⟨hr1, hr2, hr3⟩
   have hb3 := hbg.trans hr3
   by_cases he : rnE L k least most = 0
   ·obtain ⟨z1, z2⟩ := rnE_zero he
    rw [if_pos he] at hr1 hr2
    rw [IntWalk.i64_in _ (by omega)] at hr1
    rw [he] at hr2
    refine ⟨?_, ?_, hb3⟩
    ·rw [hr1]; unfold rnV; rw [if_pos ⟨rfl, he⟩]
    unfold rnK rnF; rw [if_pos ⟨rfl, he⟩, if_pos rfl, he]; simpa using hr2
   rw [if_neg he] at hr1 hr2
   refine ⟨?_, ?_, hb3⟩
   ·rw [hr1]; unfold rnV; rw [if_neg (fun hh => he hh.2)]
   unfold rnK rnF; rw [if_neg (fun hh => he hh.2), if_pos rfl]; exact hr2
  refine (creadI_old g k L x _ _ hr).mono ?_
  rintro r w' ⟨rfl, rfl⟩
  refine ⟨?_, ?_, hbg⟩
  ·unfold rnV; rw [if_neg (by intro hh; cases hh.1)]
  unfold rnK rnF; rw [if_neg (by intro hh; cases hh.1), if_neg (by intro hh; cases hh)]; exact hr
 replace main := Lib.hid main
 clear h hb hr hbg
 go_enter Tryz.func106, Tryz.ntmps106
 go_wp2_with fail
 refine main.out.mono ?_
 rintro r w1 ⟨rfl, hr1, hr2⟩
 have H := Lib.hid (show RdP g L w (rnV L k flt least most) (rnK L k flt least most) (rnF L k flt least most) (.returned (.int .i64 (rnV L k flt least most))) w1 from ⟨rfl, hr1, hr2⟩)
 clear hr1 hr2 main
 go_wp2_with fail
 go_ret
 exact H.out
def atF (flt : Option (Int × Int)) (k : Nat) : Int := match flt with | some x => x.2 | none => k
theorem cAt_any (g k : Nat) (L : List Nat) (flt : Option (Int × Int)) (w : World) (h : Rd w g L k flt) :
  Calls Tryz.prog 107 #[.pointer (some ⟨g, 0, none⟩)] w fun r w' => r = .returned (.int .i64 (atF flt k)) ∧ w = w' := by
 have H2 := h.c2
 have H1 := h.c1
 obtain ⟨v, H3, hv⟩ := h.c3
 clear h
 rcases flt with _ | ⟨e, a⟩
 ·obtain rfl := hv
  go_enter Tryz.func107, Tryz.ntmps107
  go_wp2_with fail
  refine (cnone_any g _ H2).mono ?_
  rintro r w1 ⟨rfl, rfl⟩
  go_wp2
  go_ret
  exact ⟨rfl, rfl⟩
 obtain ⟨fb, rfl, _, K0, K1, _⟩ := hv
 go_enter Tryz.func107, Tryz.ntmps107
 go_wp2_with fail
 refine (cnone_any g _ H2).mono ?_
 rintro r w1 ⟨rfl, rfl⟩
 go_wp2
 go_ret
 exact ⟨rfl, rfl⟩
def leftF (flt : Option (Int × Int)) (k n : Nat) : Int := match flt with | some _ => 0 | none => (n : Int) - k
theorem cLeft_any (g k : Nat) (L : List Nat) (flt : Option (Int × Int)) (w : World) (h : Rd w g L k flt) (hL : L.length < 1099511627776) :
  Calls Tryz.prog 194 #[.pointer (some ⟨g, 0, none⟩)] w fun r w' => r = .returned (.int .i64 (leftF flt k L.length)) ∧ Ext w w' := by
 have H2 := h.c2
 have H1 := h.c1
 obtain ⟨A, c, H0, _⟩ := h.b
 obtain ⟨v, H3, hv⟩ := h.c3
 have hle := h.le
 clear h
 generalize L.length = N at *
 rcases flt with _ | ⟨e, a⟩
 ·obtain rfl := hv
  have eq1 : IntKind.i64.wrap ((N : Int) - k) = N - k := IntWalk.i64_in _ (by omega)
  go_enter Tryz.func194, Tryz.ntmps194
  go_wp2_with fail
  refine (cnone_any g _ H2).mono ?_
  rintro r w1 ⟨rfl, rfl⟩
  go_wp2_with fail
  go_quiet (fail)
  go_wp2
  go_ret
  exact ⟨rfl, (Ext.refl _).drewN _⟩
 obtain ⟨fb, rfl, _, K0, K1, _⟩ := hv
 go_enter Tryz.func194, Tryz.ntmps194
 go_wp2_with fail
 refine (cnone_any g _ H2).mono ?_
 rintro r w1 ⟨rfl, rfl⟩
 go_wp2
 go_ret
 exact ⟨rfl, Ext.refl _⟩
def endF (flt : Option (Int × Int)) (k n : Nat) : Int × Int := match flt with | some x => x | none => if k < n then (4, k) else (0, 0)
theorem cEnd_any (g k : Nat) (L : List Nat) (flt : Option (Int × Int)) (w : World) (h : Rd w g L k flt) (hL : L.length < 1099511627776) :
  Calls Tryz.prog 114 #[.pointer (some ⟨g, 0, none⟩)] w fun r w' => r = .returned (.agg #[.int .i64 (endF flt k L.length).1, .int .i64 (endF flt k L.length).2]) ∧ Ext w w' := by
 have hb := (Below.refl w.heap.size w).alloc (Nat.le_refl _) (.cells #[.int .i64 0, .int .i64 0] 95)
 have h' := h.keep hb
 have H2 := h'.c2
 have H1 := h'.c1
 obtain ⟨A, c, H0, _⟩ := h'.b
 obtain ⟨v, H3, hv⟩ := h'.c3
 have hle := h.le
 clear h h' hb
 generalize L.length = N at *
 rcases flt with _ | ⟨e, a⟩
 ·obtain rfl := hv
  by_cases hk : k < N
  ·rw [show endF none k N = (4, (k : Int)) from if_pos hk]
   have hd : decide (k < N) = true := decide_eq_true hk
   have hd2 : decide ((k : Int) < (N : Int)) = true := decide_eq_true (by omega)
   go_enter Tryz.func114, Tryz.ntmps114
   go_wp2_with fail
   refine (cnone_any g _ H2).mono ?_
   rintro r w1 ⟨rfl, rfl⟩
   go_wp2_with fail
   go_quiet (fail)
   go_wp2
   refine bodyPost_ret (v := .agg #[.int .i64 4, .int .i64 (k : Int)]) (by simp [results, Tryz.results114, go_sem]; try rfl) rfl ⟨rfl, ?_⟩
   exact zSlTbk1_2
  rw [show endF none k N = (0, 0) from if_neg hk]
  have hd : decide (k < N) = false := decide_eq_false hk
  have hd2 : decide ((k : Int) < (N : Int)) = false := decide_eq_false (by omega)
  go_enter Tryz.func114, Tryz.ntmps114
  go_wp2_with fail
  refine (cnone_any g _ H2).mono ?_
  rintro r w1 ⟨rfl, rfl⟩
  go_wp2_with fail
  go_quiet (fail)
  go_wp2
  refine bodyPost_ret (v := .agg #[.int .i64 0, .int .i64 0]) (by simp [results, Tryz.results114, go_sem]; try rfl) rfl ⟨rfl, ?_⟩
  exact zSlTbk1_2
 obtain ⟨fb, rfl, _, K0, K1, _⟩ := hv
 go_enter Tryz.func114, Tryz.ntmps114
 go_wp2_with fail
 refine (cnone_any g _ H2).mono ?_
 rintro r w1 ⟨rfl, rfl⟩
 go_wp2
 refine bodyPost_ret (v := .agg #[.int .i64 e, .int .i64 a]) (by simp [results, Tryz.results114, go_sem]; try rfl) rfl ⟨rfl, ?_⟩
 exact zSlTbk1_2
theorem pow7_succ (i : Nat) : 2 ^ (7 * (i + 1)) = 128 * 2 ^ (7 * i) := by
 rw [show 7 * (i + 1) = 7 + 7 * i from by omega, Nat.pow_add]
theorem pow7_pos (i : Nat) : 0 < 2 ^ (7 * i) := Nat.pow_pos (by decide)
theorem numGo_putL : ∀ (b m i acc : Nat) (rest : List Nat), m ≤ b → (0 < i → 0 < m) → i ≤ 9 → m * 2 ^ (7 * i) < 18446744073709551616 →
  numGo (putL m ++ rest) i acc = (acc + m * 2 ^ (7 * i), i + (putL m).length, 0) := by
 intro b
 induction b with
 | zero =>
  intro m i acc rest hb hi h9 hm
  obtain rfl : m = 0 := by omega
  have hi0 : i = 0 := by omega
  subst hi0
  rw [putL_lt (by decide)]
  simp [numGo]
 | succ b ih =>
  intro m i acc rest hb hi h9 hm
  by_cases h : m < 128
  ·rw [putL_lt h, List.singleton_append, numGo, if_neg, if_pos h, Nat.mod_eq_of_lt h]
   ·rfl
   intro hh
   rcases hh with ⟨rfl, h1⟩ | ⟨h1, h2⟩
   ·have : 2 * 2 ^ (7 * 9) ≤ m * 2 ^ (7 * 9) := Nat.mul_le_mul_right _ h1
    omega
   have := hi h1; omega
  have hp := pow7_succ i
  have hq := pow7_pos i
  have hd : (m / 128) * 2 ^ (7 * (i + 1)) ≤ m * 2 ^ (7 * i) := by
   rw [hp, ← Nat.mul_assoc]
   exact Nat.mul_le_mul_right _ (Nat.div_mul_le_self m 128)
  have hi8 : i ≤ 8 := by
   rcases Nat.lt_or_ge i 9 with g | g
   ·omega
   obtain rfl : i = 9 := by omega
   have : 128 * 2 ^ (7 * 9) ≤ m * 2 ^ (7 * 9) := Nat.mul_le_mul_right _ (by omega)
   omega
  rw [putL_ge h, List.cons_append, numGo, if_neg (by omega), if_neg (by omega), ih (m / 128) (i + 1) _ rest (by omega) (fun _ => by omega) (by omega) (by omega), List.length_cons]
  have e1 : (m % 128 + 128) % 128 = m % 128 := by omega
  rw [e1, hp]
  have e2 : m * 2 ^ (7 * i) = m % 128 * 2 ^ (7 * i) + m / 128 * (128 * 2 ^ (7 * i)) := by
   rw [← Nat.mul_assoc, ← Nat.add_mul]
   congr 1
   omega
  rw [e2, ← Nat.add_assoc, Nat.add_assoc i, Nat.add_comm 1]
theorem numGo_back : ∀ (L : List Nat) (i acc n k : Nat), Byt L → numGo L i acc = (n, k, 0) →
  ∃ m rest, L = putL m ++ rest ∧ n = acc + m * 2 ^ (7 * i) ∧ k = i + (putL m).length ∧ (0 < i → 0 < m) := by
 intro L
 induction L with
 | nil => intro i acc n k _ h; simp [numGo] at h
 | cons c l ih =>
  intro i acc n k hB h
  have hc : c < 256 := hB c (List.mem_cons_self ..)
  have hBl : Byt l := fun x hx => hB x (List.mem_cons_of_mem _ hx)
  rw [numGo] at h
  split at h
  ·simp at h
  rename_i hcond
  split at h
  ·rename_i h1
   simp only [Prod.mk.injEq] at h
   obtain ⟨h2, h3, _⟩ := h
   refine ⟨c, l, by rw [putL_lt h1]; rfl, by rw [← h2, Nat.mod_eq_of_lt h1], by rw [putL_lt h1, ← h3]; rfl, fun hi => by omega⟩
  rename_i h1
  obtain ⟨m, rest, rfl, hn, hk, hm⟩ := ih (i + 1) _ n k hBl h
  have hm0 : 0 < m := hm (by omega)
  have hge : ¬ (c - 128 + 128 * m) < 128 := by omega
  have e : putL (c - 128 + 128 * m) = c :: putL m := by
   rw [putL_ge hge]
   rw [show (c - 128 + 128 * m) % 128 + 128 = c from by omega, show (c - 128 + 128 * m) / 128 = m from by omega]
  refine ⟨c - 128 + 128 * m, rest, by rw [e]; rfl, ?_, by rw [e, List.length_cons, hk]; omega, fun _ => by omega⟩
  rw [hn, pow7_succ, show c % 128 = c - 128 from by omega, Nat.add_mul, Nat.mul_comm 128 m, Nat.mul_assoc, Nat.add_assoc]
theorem rn_put {L rest : List Nat} {k m : Nat} {lo hi : Int} (hL : L.drop k = putL m ++ rest) (hm : m < 18446744073709551616) (h1 : lo ≤ m) (h2 : (m : Int) ≤ hi) :
  rnV L k none lo hi = m ∧ rnK L k none lo hi = k + (putL m).length ∧ rnF L k none lo hi = none := by
 have e := numGo_putL m m 0 0 rest (Nat.le_refl _) (fun h => absurd h (by omega)) (by omega) (by omega)
 rw [← hL] at e
 have e0 : rnE L k lo hi = 0 := by
  unfold rnE bndE
  rw [e]
  simp
  omega
 unfold rnV rnK rnF
 rw [e0, e]
 simp [failF]
theorem rn_back {L : List Nat} (hB : Byt L) {k : Nat} {lo hi : Int} (hlo : 0 ≤ lo) (h : rnF L k none lo hi = none) :
  ∃ m rest, L.drop k = putL m ++ rest ∧ rnV L k none lo hi = (m : Int) ∧ rnK L k none lo hi = k + (putL m).length ∧ lo ≤ m ∧ (m : Int) ≤ hi := by
 have e0 : rnE L k lo hi = 0 := by
  unfold rnF at h
  rw [if_pos rfl] at h
  unfold failF at h
  simp at h
  exact h
 have hb := e0
 unfold rnE bndE at hb
 split at hb
 ·rename_i h0
  split at hb
  ·omega
  rename_i h1
  obtain ⟨n, k', e, hx⟩ : ∃ n k' e, numGo (L.drop k) 0 0 = (n, k', e) := ⟨_, _, _, rfl⟩
  rw [hx] at h0 h1
  simp at h0
  subst h0
  obtain ⟨m, rest, hL, hn, hk, _⟩ := numGo_back (L.drop k) 0 0 n k' (fun x hx => hB x (List.mem_of_mem_drop hx)) hx
  simp at hn hk
  subst hn; subst hk
  unfold rnV rnK
  rw [e0, hx]
  refine ⟨n, rest, hL, by simp, by simp, by omega, by omega⟩
 rename_i h0
 exact absurd hb h0
theorem rnF_some (L : List Nat) (k : Nat) (x : Int × Int) (lo hi : Int) : rnF L k (some x) lo hi = some x := by
 unfold rnF; rw [if_neg (by simp)]
theorem rnF_none {L : List Nat} {k : Nat} {f : Option (Int × Int)} {lo hi : Int} (h : rnF L k f lo hi = none) : f = none := by
 cases f with
 | none => rfl
 | some x => rw [rnF_some] at h; cases h
theorem failF_none {f : Option (Int × Int)} {e a : Int} (h : failF f e a = none) : f = none ∧ e = 0 := by
 cases f with
 | some x => simp [failF] at h
 | none => refine ⟨rfl, ?_⟩; unfold failF at h; simp at h; exact h
theorem FltNz.rn {f : Option (Int × Int)} (h : FltNz f) (L : List Nat) (k : Nat) (lo hi : Int) : FltNz (rnF L k f lo hi) := by
 unfold rnF
 split
 ·exact FltNz.none.fail _ _
 exact h
theorem endF_zero {f : Option (Int × Int)} {k n : Nat} (hz : FltNz f) (h : (endF f k n).1 = 0) : f = none ∧ n ≤ k := by
 cases f with
 | some x => exact absurd h (hz x rfl)
 | none =>
  refine ⟨rfl, ?_⟩
  unfold endF at h
  simp at h
  by_cases hk : k < n
  ·simp [hk] at h
  omega
def ruE (L : List Nat) (k : Nat) : Int := (numGo (L.drop k) 0 0).2.2
def ruV (L : List Nat) (k : Nat) (f : Option (Int × Int)) : Int := if f = none ∧ ruE L k = 0 then ((numGo (L.drop k) 0 0).1 : Int) else 0
def ruK (L : List Nat) (k : Nat) (f : Option (Int × Int)) : Nat := if f = none ∧ ruE L k = 0 then k + (numGo (L.drop k) 0 0).2.1 else k
def ruF (L : List Nat) (k : Nat) (f : Option (Int × Int)) : Option (Int × Int) := if f = none then failF none (ruE L k) k else f
theorem RWr.setErr {w : World} {g : Nat} {lim err : Int} {L : List Nat} (h : RWr w g lim err L) (e : Int) : RWr (w.setCell ⟨g, 2, none⟩ (.int .i64 e)) g lim e L := by
 obtain ⟨A, c, h0, h1⟩ := h.b
 have c0 := h.c0
 have c2 := h.c2
 have f1 := h.f1
 have f2 := h.f2
 exact ⟨⟨A, c, by simp [go_sem, h0], ownsRow_setCell_below h1 (by simp) _⟩, by simp [go_sem, c0], by simp [go_sem, c2], by simp [go_sem, f1], by simp [go_sem, f2], by simpa using h.lt, h.short, h.l0, h.l1⟩
theorem Wr.sg {w : World} {g : Nat} {lim e : Int} {L : List Nat} (h : Wr w g lim e L) {k : Nat} (hk : Sg w g 0 k) : g ≤ k ∧ k < w.heap.size := by
 obtain ⟨A, c, h0, h1⟩ := h.b
 refine ⟨?_, Sg.lt h0 h1 h.lt hk⟩
 rcases hk with rfl | ⟨n', c', e⟩
 ·exact Nat.le_refl _
 rw [h0] at e
 injection e with e
 injection e with e1
 subst e1
 have := (h1.lt k rfl).1
 omega
theorem RWr.sg {w : World} {g : Nat} {lim e : Int} {L : List Nat} (h : RWr w g lim e L) {k : Nat} (hk : Sg w g 1 k) : g ≤ k ∧ k < w.heap.size := by
 obtain ⟨A, c, h0, h1⟩ := h.b
 refine ⟨?_, Sg.lt h0 h1 h.lt hk⟩
 rcases hk with rfl | ⟨n', c', e⟩
 ·exact Nat.le_refl _
 rw [h0] at e
 injection e with e
 injection e with e1
 subst e1
 have := (h1.lt k rfl).1
 omega
theorem cadd_longF (g : Nat) (lim : Int) (L : List Nat) (B : Option Addr) (m d : Nat) (w : World) (h : Wr w g lim 0 L) (hm : m ≤ 1048576) (hl : lim - L.length < m) :
  Calls Tryz.prog 159 #[.pointer (some ⟨g, 0, none⟩), .slice B m d] w fun r w' => r = .returned (.int .i64 4) ∧ Wr w' g lim 4 L ∧ WF g 0 w w' := by
 have H2 := h.c2
 have H3 := h.c3
 obtain ⟨A, c, H0, hown⟩ := h.b
 have H1 := h.c1
 have F3 := h.f3
 have l0 := h.l0
 have l1 := h.l1
 have l2 := h.short
 have HH := Lib.hid h
 have hln : (L.length : Int) ≤ 1048576 := by omega
 have hmn : (m : Int) ≤ 1048576 := by omega
 have e1 : decide (lim - (L.length : Int) < (m : Int)) = true := by simpa using hl
 clear hown h hl
 generalize hLn : L.length = N at *
 replace hLn := Lib.hid hLn
 have eq1 : IntKind.i64.wrap (lim - (N : Int)) = lim - N := IntWalk.i64_in _ (by omega)
 go_enter Tryz.func159, Tryz.ntmps159
 go_wp2_with fail
 refine (cstate_any g 0 _ H2 H3).mono ?_
 rintro r w1 ⟨rfl, rfl⟩
 go_wp2_with fail
 go_quiet (fail)
 go_wp2
 go_ret
 exact ⟨rfl, (HH.out.drewN _).setErr 4, WF.same (((But.refl _ _).drewN _).setCell (p := ⟨g, 3, none⟩) (.inl rfl) _) (by simp [go_sem])⟩
theorem cadd_okF (g : Nat) (lim : Int) (L bl : List Nat) (B : Option Addr) (m d : Nat) (w : World) (h : Wr w g lim 0 L) (hS : Sl w 1 B m d (by_ bl)) (hl : ¬ lim - L.length < m) :
  Calls Tryz.prog 159 #[.pointer (some ⟨g, 0, none⟩), .slice B m d] w fun r w' => r = .returned (.int .i64 0) ∧ Wr w' g lim 0 (L ++ bl) ∧ WF g 0 w w' := by
 obtain ⟨i0, hi, hz0, hz1, hz2⟩ := info_parts u8_info
 have hbm : bl.length = m := by have := hS.len; rw [by_len] at this; omega
 have H2 := h.c2
 have H3 := h.c3
 obtain ⟨A, c, H0, hown⟩ := h.b
 have H1 := h.c1
 have F0 := h.f0
 have l0 := h.l0
 have l1 := h.l1
 have l2 := h.short
 have lt := h.lt
 have HH := Lib.hid h
 have HO := Lib.hid hown
 have HS := Lib.hid hS
 have hln : (L.length : Int) ≤ 1048576 := by omega
 have hmn : (m : Int) ≤ 1048576 := by omega
 have e1 : decide (lim - (L.length : Int) < (m : Int)) = false := decide_eq_false hl
 have hbm := Lib.hid hbm
 have hle : (L.length : Int) + m ≤ lim := by omega
 have hlt2 : g < (w.drewN 0).heap.size := h.lt
 clear h hown hl hS
 generalize hLn : L.length = N at *
 replace hLn := Lib.hid hLn
 have eq1 : IntKind.i64.wrap (lim - (N : Int)) = lim - N := IntWalk.i64_in _ (by omega)
 go_enter Tryz.func159, Tryz.ntmps159
 go_wp2_with fail
 refine (cstate_any g 0 _ H2 H3).mono ?_
 rintro r w1 ⟨rfl, rfl⟩
 go_wp2_with fail
 go_quiet (fail)
 go_wp2_with (at_builtin; refine wpList_append_slB (w.drewN nq) rfl _ _ 90 rfl (g + 1) 5 i0 (.int .u8 0) 1 1 Tryz.underlying90 hi hz0 hz1 hz2 rfl (by decide) _ N (by_ L) (by rfl) HO.out B m d (by_ bl) (by rfl) (HS.out.ext ((Ext.refl _).drewN _)) by_one (by omega) (by decide) (by simp; omega) ?_; intro v1 w1 hown1 hb1 hn1; have hgS : ¬ ((Value.slice A N c).ownBlock = some g) := (fun e => by have := (HO.out.lt g e).1; omega); obtain ⟨A1, c1, rfl, s1⟩ := own_parts hown1; have q0 : w1.cell? ⟨g, 0, none⟩ = some (.slice A N c) := hb1.has hgS H0; have q1 : w1.frozen? ⟨g, 0, none⟩ = false := (hb1.frozen hlt2 hgS).trans F0; have HB := Lib.hid (And.intro hb1 (And.intro hn1 hgS)); have HW := Lib.hid hown1; clear hb1 hown1 s1 hn1 hgS)
 go_ret
 refine ⟨rfl, ?_, ?_⟩
 ·have hb := HB.out.1
  have hgS := HB.out.2.2
  have hh := HH.out
  have eL : (L ++ bl).length = N + m := by rw [List.length_append, hLn.out, hbm.out]
  have cl : ∀ o, w1.cell? ⟨g, o, none⟩ = w.cell? ⟨g, o, none⟩ := fun o => hb.cell hlt2 hgS
  have fl : ∀ o, w1.frozen? ⟨g, o, none⟩ = w.frozen? ⟨g, o, none⟩ := fun o => hb.frozen hlt2 hgS
  have e0 := cl 0; have e1 := (cl 1).trans hh.c1; have e2 := (cl 2).trans hh.c2; have e3 := (cl 3).trans hh.c3
  have g0 := (fl 0).trans hh.f0; have g3 := (fl 3).trans hh.f3
  have hs := hb.size
  simp at hs
  refine ⟨⟨A1, c1, by rw [eL]; simp [go_sem, q0], ?_⟩, by simp [go_sem, e1], by simp [go_sem, e2], by simp [go_sem, e3], by simp [go_sem, g0], by simp [go_sem, g3], by simp; omega, by rw [eL]; omega, l0, l1⟩
  rw [eL, ← by_append]
  exact ownsRow_setCell_below HW.out (by simp) _
 have hb := HB.out.1
 have hgS := HB.out.2.2
 have hc0 : w1.cell? ⟨g, 0, none⟩ = w.cell? ⟨g, 0, none⟩ := hb.cell hlt2 hgS
 have hoff : ∀ k, (Value.slice A N c).ownBlock = some k → Sg w g 0 k := by
  intro k hk
  have h0 := H0
  rcases HO.out.2 with ⟨h1, _⟩ | ⟨q, cap, cur, h1, _⟩
  ·rw [h1] at hk; cases hk
  rw [h1] at hk h0
  injection hk with hk
  have hk2 : q = k := hk
  subst hk2
  exact .inr ⟨_, _, h0⟩
 refine ⟨?_, ?_⟩
 ·exact (((But.refl _ w).drewN nq).trans (hb.mono fun k _ hk => hoff k hk)).setCell (p := ⟨g, 0, none⟩) (.inl rfl) _
 intro k hk hs
 rcases hs with rfl | ⟨n', c', e⟩
 ·exact .inl rfl
 have e2 : (w1.setCell ⟨g, 0, none⟩ (.slice A1 (N + m) c1)).cell? ⟨g, 0, none⟩ = some (.slice A1 (N + m) c1) := by simp [go_sem, q0]
 rw [e2] at e
 injection e with e
 injection e with e1
 subst e1
 rcases HB.out.2.1 k rfl with h | h
 ·exact hoff k h
 simp at h; omega
theorem cadd_anyF (g : Nat) (lim e : Int) (L bl : List Nat) (B : Option Addr) (m d : Nat) (w : World) (h : Wr w g lim e L) (hS : Sl w 1 B m d (by_ bl)) (hm : m ≤ 1048576) :
  Calls Tryz.prog 159 #[.pointer (some ⟨g, 0, none⟩), .slice B m d] w fun r w' => r = .returned (.int .i64 (wAddE lim e L bl)) ∧ Wr w' g lim (wAddE lim e L bl) (wAddL lim e L bl) ∧ WF g 0 w w' := by
 have hbm : bl.length = m := by have := hS.len; rw [by_len] at this; omega
 unfold wAddL wAddE
 rw [hbm]
 by_cases he : e = 0
 ·subst he
  rw [if_pos rfl]
  by_cases hl : lim - L.length < m
  ·rw [if_pos hl, if_neg (by decide)]
   exact cadd_longF g lim L B m d w h hm hl
  rw [if_neg hl, if_pos rfl]
  exact cadd_okF g lim L bl B m d w h hS hl
 rw [if_neg he, if_neg he]
 refine (cadd_err g lim e L _ w h he).mono ?_
 rintro r w' ⟨h1, rfl⟩
 exact ⟨h1, h, WF.refl _ _ _⟩
theorem cWU_anyF (g : Nat) (lim e : Int) (L : List Nat) (N : Nat) (hN : N < 18446744073709551616) (w : World) (h : Wr w g lim e L) :
  Calls Tryz.prog 98 #[.pointer (some ⟨g, 0, none⟩), .int .u64 (N : Int)] w fun r w' => r = .returned (.int .i64 (wAddE lim e L (putL N))) ∧ Wr w' g lim (wAddE lim e L (putL N)) (wAddL lim e L (putL N)) ∧ WF g 0 w w' := by
 have H := Lib.hid h
 have hp : (putL N).length ≤ 1048576 := by have := putL_len N 9 (by omega); omega
 have HP := Lib.hid hp
 obtain ⟨E, hE⟩ : ∃ E, E = wAddE lim e L (putL N) := ⟨_, rfl⟩
 obtain ⟨M, hM⟩ : ∃ M, M = wAddL lim e L (putL N) := ⟨_, rfl⟩
 rw [← hE, ← hM]
 have HE := Lib.hid (And.intro hE hM)
 clear h hE hM hp
 go_enter Tryz.func98, Tryz.ntmps98
 go_wp2_with fail
 refine (cPut_any N hN _).mono ?_
 rintro r w1 ⟨v, rfl, h1, hx1⟩
 obtain ⟨A1, c1, rfl, s1⟩ := own_parts h1
 have C := cadd_anyF g lim e L (putL N) A1 (putL N).length c1 w1 (H.out.keep hx1) s1 HP.out
 rw [← HE.out.1, ← HE.out.2] at C
 replace C := Lib.hid C
 have X1 := Lib.hid (And.intro hx1 H.out.lt)
 clear h1 s1 hx1
 go_wp2_with fail
 refine C.out.mono ?_
 rintro r w2 ⟨rfl, hw2, hb2⟩
 have W2 := Lib.hid (And.intro hw2 hb2)
 clear hw2 hb2 C
 go_wp2_with fail
 go_ret
 exact ⟨rfl, W2.out.1, (WF.ofExt X1.out.1 X1.out.2).trans W2.out.2⟩
theorem cWN_errF (g : Nat) (lim e : Int) (L : List Nat) (n : Int) (h0 : -9223372036854775808 ≤ n) (h1 : n ≤ 9223372036854775807) (w : World) (h : Wr w g lim e L) (he : ¬ e = 0) :
  Calls Tryz.prog 96 #[.pointer (some ⟨g, 0, none⟩), .int .i64 n] w fun r w' => r = .returned (.int .i64 e) ∧ Wr w' g lim e L ∧ WF g 0 w w' := by
 have H2 := h.c2
 have H3 := h.c3
 have hef : (e == 0) = false := beq_false_of_ne he
 obtain ⟨M, hM⟩ : ∃ M : Nat, IntKind.u64.wrap n = (M : Int) ∧ M < 18446744073709551616 := by
  refine ⟨(IntKind.u64.wrap n).toNat, ?_, ?_⟩ <;> rw [IntKind.wrap_u64] <;> omega
 have hne : (e != 0) = true := by simpa using he
 have C := cWU_anyF g lim e L M hM.2 w h
 have E1 : wAddE lim e L (putL M) = e := if_neg he
 have E2 : wAddL lim e L (putL M) = L := by unfold wAddL; rw [E1, if_neg he]
 rw [E1, E2, ← hM.1] at C
 replace C := Lib.hid C
 clear h he E1 E2 hM
 go_enter Tryz.func96, Tryz.ntmps96
 go_wp2_with fail
 refine (cstate_any g e _ H2 H3).mono ?_
 rintro r w1 ⟨rfl, rfl⟩
 go_wp2_with fail
 refine C.out.mono ?_
 rintro r w2 ⟨rfl, hw2, hb2⟩
 have W2 := Lib.hid (And.intro hw2 hb2)
 clear hw2 hb2 C
 go_wp2_with fail
 go_ret
 exact ⟨rfl, W2.out.1, W2.out.2⟩
theorem cWN_negF (g : Nat) (lim : Int) (L : List Nat) (n : Int) (h0 : n < 0) (w : World) (h : Wr w g lim 0 L) :
  Calls Tryz.prog 96 #[.pointer (some ⟨g, 0, none⟩), .int .i64 n] w fun r w' => r = .returned (.int .i64 3) ∧ Wr w' g lim 3 L ∧ WF g 0 w w' := by
 have H2 := h.c2
 have H3 := h.c3
 have F3 := h.f3
 have HH := Lib.hid h
 have hd : decide (0 ≤ n) = false := decide_eq_false (by omega)
 clear h
 go_enter Tryz.func96, Tryz.ntmps96
 go_wp2_with fail
 refine (cstate_any g 0 _ H2 H3).mono ?_
 rintro r w1 ⟨rfl, rfl⟩
 go_wp2
 go_ret
 exact ⟨rfl, HH.out.setErr 3, WF.same ((But.refl _ _).setCell (p := ⟨g, 3, none⟩) (.inl rfl) _) (by simp [go_sem])⟩
theorem cWN_posF (g : Nat) (lim : Int) (L : List Nat) (N : Nat) (hN : N < 9223372036854775808) (w : World) (h : Wr w g lim 0 L) :
  Calls Tryz.prog 96 #[.pointer (some ⟨g, 0, none⟩), .int .i64 (N : Int)] w fun r w' => r = .returned (.int .i64 (wAddE lim 0 L (putL N))) ∧ Wr w' g lim (wAddE lim 0 L (putL N)) (wAddL lim 0 L (putL N)) ∧ WF g 0 w w' := by
 have H2 := h.c2
 have H3 := h.c3
 have C := Lib.hid (cWU_anyF g lim 0 L N (by omega) w h)
 have hd : decide (0 ≤ (N : Int)) = true := decide_eq_true (by omega)
 have hN2 : (N : Int) < 9223372036854775808 := by omega
 generalize wAddE lim 0 L (putL N) = E at C
 generalize wAddL lim 0 L (putL N) = M at C
 clear h hN
 go_enter Tryz.func96, Tryz.ntmps96
 go_wp2_with fail
 refine (cstate_any g 0 _ H2 H3).mono ?_
 rintro r w1 ⟨rfl, rfl⟩
 go_wp2_with fail
 refine C.out.mono ?_
 rintro r w2 ⟨rfl, hw2, hb2⟩
 have W2 := Lib.hid (And.intro hw2 hb2)
 clear hw2 hb2 C
 go_wp2_with fail
 go_ret
 exact ⟨rfl, W2.out.1, W2.out.2⟩
theorem cWN_anyF (g : Nat) (lim e : Int) (L : List Nat) (n : Int) (h0 : -9223372036854775808 ≤ n) (h1 : n ≤ 9223372036854775807) (w : World) (h : Wr w g lim e L) :
  Calls Tryz.prog 96 #[.pointer (some ⟨g, 0, none⟩), .int .i64 n] w fun r w' => r = .returned (.int .i64 (wNE lim e L n)) ∧ Wr w' g lim (wNE lim e L n) (wNL lim e L n) ∧ WF g 0 w w' := by
 unfold wNE wNL
 by_cases he : e = 0
 ·subst he
  rw [if_pos rfl, if_pos rfl]
  by_cases hn : n < 0
  ·rw [if_pos hn, if_pos hn]
   exact cWN_negF g lim L n hn w h
  rw [if_neg hn, if_neg hn]
  obtain ⟨N, rfl⟩ : ∃ N : Nat, n = N := ⟨n.toNat, by omega⟩
  rw [Int.toNat_natCast]
  exact cWN_posF g lim L N (by omega) w h
 rw [if_neg he, if_neg he]
 exact cWN_errF g lim e L n h0 h1 w h he
theorem numGo_lt' : ∀ (L : List Nat) (i acc : Nat), i ≤ 9 → acc < 2 ^ (7 * i) → Byt L → (numGo L i acc).1 < 18446744073709551616 := by
 intro L
 induction L with
 | nil => intro i acc _ _ _; simp [numGo]
 | cons c l ih =>
  intro i acc hi ha hB
  have hc := hB c (List.mem_cons_self ..)
  rw [numGo]
  split
  ·simp
  rename_i hcond
  have hs := fun (h9 : i = 9 → c % 128 ≤ 1) => acc_small (c := c % 128) ha hi (by omega) h9
  split
  ·rename_i h1
   exact (hs (by omega)).2
  exact ih _ _ (by omega) (acc_step ha (by omega)) (fun x hx => hB x (List.mem_cons_of_mem _ hx))
def RdPU (g : Nat) (L : List Nat) (W : World) (v : Int) (k : Nat) (flt : Option (Int × Int)) (r : Ending) (w' : World) : Prop := r = .returned (.int .u64 v) ∧ Rd w' g L k flt ∧ But (· = g) W w'
theorem creadU_old (g k : Nat) (L : List Nat) (x : Int × Int) (v : Value) (w : World) (h : Rd w g L k (some x)) :
  Calls Tryz.prog 169 #[.pointer (some ⟨g, 0, none⟩), v] w fun r w' => r = .returned (.int .u64 0) ∧ w = w' := by
 have H2 := h.c2
 obtain ⟨v, H3, fb, rfl, _⟩ := h.c3
 clear h
 go_enter Tryz.func169, Tryz.ntmps169
 go_wp2_with fail
 refine (cnone_any g _ H2).mono ?_
 rintro r w1 ⟨rfl, rfl⟩
 go_wp2
 go_ret
 exact ⟨rfl, rfl⟩
theorem creadU_go (g k : Nat) (L : List Nat) (n kk e : Int) (W : World) (h : Rd W g L k none) (hle : 0 ≤ kk) (hk2 : (k : Int) + kk ≤ L.length) (hL : L.length < 1099511627776)
  (CN : Hid (∀ (A : Option Addr) (c : Nat) (w : World), Sl w 1 A (L.length - k) c (by_ (L.drop k)) → (∀ b, w.cell? b = W.cell? b) → Calls Tryz.prog 166 #[.slice A (L.length - k) c] w fun r w' => r = .returned (.tuple #[.int .u64 n, .int .i64 kk, .int .i64 e]) ∧ w = w')) :
  Calls Tryz.prog 169 #[.pointer (some ⟨g, 0, none⟩), .func (.func 166) #[] #[]] W fun r w' => r = .returned (.int .u64 (if e = 0 then n else 0)) ∧ Rd w' g L (if e = 0 then k + kk.toNat else k) (failF none e k) ∧ But (· = g) W w' := by
 have H2 := h.c2
 have H1 := h.c1
 obtain ⟨v, H3, rfl⟩ := h.c3
 obtain ⟨A, c, H0, hs, _⟩ := h.b
 have hkl := h.le
 have hd := Lib.hid (hs.bdrop hkl)
 have F1 := h.f1
 have HH := Lib.hid h
 have hsm := hs.small
 have hcs : L.length ≤ c := hs.2.1
 clear h hs
 generalize hN : L.length = N at *
 replace hN := Lib.hid hN
 obtain ⟨A2, hA2⟩ : ∃ A2, A2 = (if c = k then A else A.map (·.add (k * 1))) := ⟨_, rfl⟩
 rw [← hA2] at hd
 have hsl : ∀ w, (Instr.slice 90 (.slice A N c) (some (.int .i64 (k : Int))) none none).run Tryz.prog w = .ok (.slice A2 (N - k) (c - k)) w := by
  intro w
  have hq := run_slice_l (P := Tryz.prog) (w := w) 90 A N c (by kernel_rfl) .i64 (k : Int) (by omega) (by omega)
  rw [hq, hA2]
  simp [go_sem, sizeOf_u8 w]
 replace hA2 := Lib.hid hA2
 have hkI : (k : Int) ≤ N := by omega
 by_cases he : e = 0
 ·subst he
  rw [if_pos rfl, if_pos rfl]
  show Calls _ _ _ _ (RdPU g L W n (k + kk.toNat) none)
  go_enter Tryz.func169, Tryz.ntmps169
  go_wp2_with fail
  refine (cnone_any g _ H2).mono ?_
  rintro r w1 ⟨rfl, rfl⟩
  go_wp2_with fail
  go_quiet ((go_at_call 166; exact Calls.quiet_of_same ((CN.out A2 (c - k) _ (hd.out.ext ((Ext.refl _).drewN _)) (fun _ => rfl)).mono fun r w' h => ⟨h.1, h.2.symm⟩)))
  have hkk : (k : Int) + kk < 9223372036854775808 := by omega
  go_wp2
  go_ret
  refine ⟨rfl, ?_, ((But.refl (· = g) W).drewN nq).setCell (p := ⟨g, 1, none⟩) (show g = g from rfl) _⟩
  have hh := (HH.out.drewN nq).setAt (k + kk.toNat) (by rw [hN.out]; omega)
  rw [show ((k + kk.toNat : Nat) : Int) = (k : Int) + kk from by omega] at hh
  exact hh
 have hef : (e == 0) = false := beq_false_of_ne he
 rw [if_neg he, if_neg he]
 show Calls _ _ _ _ (RdPU g L W 0 k (failF none e k))
 go_enter Tryz.func169, Tryz.ntmps169
 go_wp2_with fail
 refine (cnone_any g _ H2).mono ?_
 rintro r w1 ⟨rfl, rfl⟩
 go_wp2_with fail
 go_quiet ((go_at_call 166; exact Calls.quiet_of_same ((CN.out A2 (c - k) _ (hd.out.ext ((Ext.refl _).drewN _)) (fun _ => rfl)).mono fun r w' h => ⟨h.1, h.2.symm⟩)))
 have CF := Lib.hid (cFail_any g k L none e k _ (HH.out.drewN nq))
 clear he
 go_wp2_with fail
 refine CF.out.mono ?_
 rintro r w1 ⟨⟨v, rfl⟩, hr, hb⟩
 have HR := Lib.hid (And.intro hr hb)
 clear hr hb CF
 go_wp2_with fail
 go_ret
 exact ⟨rfl, HR.out.1, ((But.refl _ W).drewN nq).trans HR.out.2⟩
theorem cU_main (g k : Nat) (L : List Nat) (f : Option (Int × Int)) (hL : L.length < 1099511627776) (w : World) (h : Rd w g L k f) :
  Calls Tryz.prog 169 #[.pointer (some ⟨g, 0, none⟩), .func (.func 166) #[] #[]] w (RdPU g L w (ruV L k f) (ruK L k f) (ruF L k f)) := by
 cases f with
 | some x =>
  refine (creadU_old g k L x _ w h).mono ?_
  rintro r w' ⟨rfl, rfl⟩
  unfold ruV ruK ruF RdPU
  exact ⟨by simp, by simpa using h, But.refl _ _⟩
 | none =>
  have hn := numGo_lt (L.drop k) 0 0 (by decide) (by decide)
  have hlen : (L.drop k).length = L.length - k := List.length_drop ..
  have hkl := h.le
  have C := creadU_go g k L ((numGo (L.drop k) 0 0).1 : Int) ((numGo (L.drop k) 0 0).2.1 : Int) (ruE L k) w h (by omega) (by have := hn.2.1; omega) hL
   (Lib.hid fun A c w' hs _ => cnumber_any A (L.length - k) c (L.drop k) w' hs (h.byt.drop k))
  refine C.mono ?_
  rintro r w' ⟨hr1, hr2, hr3⟩
  unfold ruV ruK ruF
  by_cases he : ruE L k = 0
  ·rw [if_pos he] at hr1 hr2
   rw [he] at hr2 ⊢
   refine ⟨?_, ?_, hr3⟩
   ·rw [hr1]; simp
   simpa using hr2
  rw [if_neg he] at hr1 hr2
  refine ⟨?_, ?_, hr3⟩
  ·rw [hr1]; simp [he]
  simpa [he] using hr2
theorem cU_any (g k : Nat) (L : List Nat) (f : Option (Int × Int)) (hL : L.length < 1099511627776) (w : World) (h : Rd w g L k f) :
  Calls Tryz.prog 109 #[.pointer (some ⟨g, 0, none⟩)] w (RdPU g L w (ruV L k f) (ruK L k f) (ruF L k f)) := by
 have main := Lib.hid (cU_main g k L f hL w h)
 clear h
 go_enter Tryz.func109, Tryz.ntmps109
 go_wp2_with fail
 refine main.out.mono ?_
 rintro r w1 ⟨rfl, hr1, hr2⟩
 have H := Lib.hid (show RdPU g L w (ruV L k f) (ruK L k f) (ruF L k f) (.returned (.int .u64 (ruV L k f))) w1 from ⟨rfl, hr1, hr2⟩)
 clear hr1 hr2 main
 go_wp2_with fail
 go_ret
 exact H.out
theorem wAdd_fit {lim : Int} {L b : List Nat} (h : (L.length : Int) + b.length ≤ lim) : wAddE lim 0 L b = 0 ∧ wAddL lim 0 L b = L ++ b := by
 have e : wAddE lim 0 L b = 0 := by unfold wAddE; rw [if_pos rfl, if_neg (by omega)]
 exact ⟨e, by unfold wAddL; rw [e, if_pos rfl]⟩
theorem putL_ten {N : Nat} (hN : N < 18446744073709551616) : (putL N).length ≤ 10 := by have := putL_len N 9 (by omega); omega
theorem But.ofBelow {g : Nat} {w w' : World} (h : Below g w w') : But (fun k => g ≤ k) w w' := ⟨h.os, h.tape, h.output, h.size, fun k _ hs => h.block k (by have h2 : ¬ g ≤ k := hs; omega)⟩
theorem Off.wf {w w' : World} {g o q : Nat} (h : Off w g o q) (hx : WF g o w w') : Off w' g o q :=
 ⟨by have := h.1; have := hx.but.size; omega, by have := h.2.1; have := hx.but.size; omega, fun hs => h.2.2 (hx.row q h.2.1 hs)⟩
theorem Off.new {w w' : World} {g q : Nat} {lim e : Int} {L : List Nat} (h : Wr w g lim e L) (hq : w.heap.size ≤ q) (hx : Ext w w') (hq2 : q < w'.heap.size) : Off w' g 0 q :=
 ⟨by have := h.lt; have := hx.size; omega, hq2, fun hs => by have := Wr.sg h ((Sg.congr (hx.cells.1 g 0 h.lt)).1 hs); omega⟩
theorem WF.box {w w' : World} {g q : Nat} {lim e : Int} {L : List Nat} (hw : Wr w g lim e L) (hq : Off w g 0 q) (hx : WF g 0 w w') : But (fun k => k ≠ q ∧ g ≤ k) w w' :=
 hx.but.mono fun k _ hs => ⟨fun e => hq.2.2 (e ▸ hs), (Wr.sg hw hs).1⟩
theorem cWN_fit (g : Nat) (lim : Int) (L : List Nat) (n : Int) (h0 : 0 ≤ n) (h1 : n < 9223372036854775808) (hf : (L.length : Int) + 10 ≤ lim) (w : World) (h : Wr w g lim 0 L) :
  Calls Tryz.prog 96 #[.pointer (some ⟨g, 0, none⟩), .int .i64 n] w fun r w' => r = .returned (.int .i64 0) ∧ Wr w' g lim 0 (L ++ putL n.toNat) ∧ But (fun k => g ≤ k) w w' := by
 obtain ⟨N, rfl⟩ : ∃ N : Nat, n = (N : Int) := ⟨n.toNat, by omega⟩
 rw [show ((N : Int)).toNat = N from by simp]
 have hb := putL_ten (N := N) (by omega)
 obtain ⟨e1, e2⟩ := wAdd_fit (lim := lim) (L := L) (b := putL N) (by omega)
 have hc := cWN_pos g lim L N (by omega) w h
 rw [e1, e2] at hc
 refine hc.mono ?_
 rintro r w' ⟨h1, h2, h3⟩
 exact ⟨h1, h2, But.ofBelow h3⟩
theorem cWU_box (g q : Nat) (lim : Int) (L : List Nat) (n : Int) (h0 : 0 ≤ n) (h1 : n < 18446744073709551616) (hf : (L.length : Int) + 10 ≤ lim) (w : World) (h : Wr w g lim 0 L) (hq : Off w g 0 q) :
  Calls Tryz.prog 98 #[.pointer (some ⟨g, 0, none⟩), .int .u64 n] w fun r w' => r = .returned (.int .i64 0) ∧ Wr w' g lim 0 (L ++ putL n.toNat) ∧ Off w' g 0 q ∧ But (fun k => k ≠ q ∧ g ≤ k) w w' := by
 obtain ⟨N, rfl⟩ : ∃ N : Nat, n = (N : Int) := ⟨n.toNat, by omega⟩
 rw [show ((N : Int)).toNat = N from by simp]
 have hb := putL_ten (N := N) (by omega)
 obtain ⟨e1, e2⟩ := wAdd_fit (lim := lim) (L := L) (b := putL N) (by omega)
 have hc := cWU_anyF g lim 0 L N (by omega) w h
 rw [e1, e2] at hc
 refine hc.mono ?_
 rintro r w' ⟨h1, h2, h3⟩
 exact ⟨h1, h2, hq.wf h3, WF.box h hq h3⟩
theorem cWN_box (g q : Nat) (lim : Int) (L : List Nat) (n : Int) (h0 : 0 ≤ n) (h1 : n < 9223372036854775808) (hf : (L.length : Int) + 10 ≤ lim) (w : World) (h : Wr w g lim 0 L) (hq : Off w g 0 q) :
  Calls Tryz.prog 96 #[.pointer (some ⟨g, 0, none⟩), .int .i64 n] w fun r w' => r = .returned (.int .i64 0) ∧ Wr w' g lim 0 (L ++ putL n.toNat) ∧ Off w' g 0 q ∧ But (fun k => k ≠ q ∧ g ≤ k) w w' := by
 obtain ⟨N, rfl⟩ : ∃ N : Nat, n = (N : Int) := ⟨n.toNat, by omega⟩
 rw [show ((N : Int)).toNat = N from by simp]
 have hb := putL_ten (N := N) (by omega)
 obtain ⟨e1, e2⟩ := wAdd_fit (lim := lim) (L := L) (b := putL N) (by omega)
 have hc := cWN_posF g lim L N (by omega) w h
 rw [e1, e2] at hc
 refine hc.mono ?_
 rintro r w' ⟨h1, h2, h3⟩
 exact ⟨h1, h2, hq.wf h3, WF.box h hq h3⟩
theorem cNewWriter_ex (lim : Int) (h0 : 0 ≤ lim) (h1 : lim ≤ 1048576) (w : World) :
  Calls Tryz.prog 95 #[.int .i64 lim] w fun r w' => ∃ g, r = .returned (.tuple #[.pointer (some ⟨g, 0, none⟩), .int .i64 0]) ∧ w.heap.size ≤ g ∧ Wr w' g lim 0 [] ∧ Ext w w' :=
 (cNewWriter_any lim h0 h1 w).mono fun r w' h => ⟨_, h.1, Nat.le_refl _, h.2⟩
theorem cDone_ok (g : Nat) (lim : Int) (L : List Nat) (w : World) (h : Wr w g lim 0 L) : Calls Tryz.prog 99 #[.pointer (some ⟨g, 0, none⟩)] w (ByErr L 0 w) := by
 have h := cDone_any g lim 0 L w h
 rwa [if_pos rfl] at h
theorem SlB.bel {B G : Nat} {w w' : World} {sz n c : Nat} {A : Option Addr} {xs : List Value} (h : SlB B w sz A n c xs) (hx : Below G w w') (hb : B ≤ G) : SlB B w' sz A n c xs := by
 refine ⟨⟨h.1.1, h.1.2.1, h.1.2.2.1, fun hn => ?_⟩, h.2⟩
 obtain ⟨b, o, e, hlt, hc⟩ := h.1.at_ hn
 have h2 := h.2 hn b o none e
 exact ⟨b, o, e, by have := hx.size; omega, fun j u hu => (hx.cell (p := ⟨b, o + j, none⟩) (show b < G by omega)).trans (hc j u hu)⟩
theorem Ext.bel {a b c : World} {g : Nat} (h : Ext a b) (k : Below g b c) (hg : a.heap.size ≤ g) : Ext a c := Below.trans h (k.mono hg)
end
section
open Go.RowKit Go.ChangeShapes Go.WideShapes Go.Deep Go.Joins
theorem chunks {α : Type} {f : α → List Value} {sz : Nat} (hpos : 0 < sz) {Good : α → Prop} : ∀ (n : Nat) (xs : List Value), xs.length = n * sz →
  (∀ i, i < n → ∃ x, (xs.drop (i * sz)).take sz = f x ∧ Good x) → ∃ l : List α, l.length = n ∧ l.flatMap f = xs ∧ ∀ x ∈ l, Good x
 | 0, xs, hl, _ => ⟨[], rfl, by rw [Nat.zero_mul] at hl; rw [List.eq_nil_of_length_eq_zero hl]; rfl, by simp⟩
 | n + 1, xs, hl, h => by
  obtain ⟨x, hx, gx⟩ := h 0 (by omega)
  rw [Nat.zero_mul, List.drop_zero] at hx
  obtain ⟨l, h1, h2, h3⟩ := chunks hpos n (xs.drop sz) (by rw [List.length_drop, hl, Nat.add_mul, Nat.one_mul]; omega) fun i hi => by
   obtain ⟨y, hy, gy⟩ := h (i + 1) (by omega)
   exact ⟨y, by rw [List.drop_drop]; rw [Nat.add_mul, Nat.one_mul, Nat.add_comm] at hy; exact hy, gy⟩
  exact ⟨x :: l, by simp [h1], by rw [List.flatMap_cons, h2, ← hx, List.take_append_drop], fun z hz => by
   rcases List.mem_cons.1 hz with rfl | hz
   ·exact gx
   ·exact h3 z hz⟩

section
variable {H : Type} {enc : TypeId × Value → H} {P : Program} {w : World} {base : Nat} {spare : Nat → Bool} {held : Bool}
theorem open_rec {α : Type} {f : α → List Value} {Good : α → Prop} {t e : TypeId} {sz n c : Nat} {A : Option Addr} {d : DataW H} {p : List MemPlace} (ht : P.underlying t = some (.slice e)) (hc : P.cellsOf e = sz) (hpos : 0 < sz)
  (hel : ∀ cs m y, DataW.trod enc P w base spare held m e cs = some y → cs.length = sz → ∃ x : α, cs = f x ∧ Good x)
  (h : DataW.Trod enc P w base spare held t (.slice A n c) d p) : ∃ l : List α, Sl w sz A n c (l.flatMap f) ∧ l.length = n ∧ ∀ x ∈ l, Good x := by
 obtain ⟨fuel, hf⟩ := h
 obtain ⟨xs, hs, hr⟩ := open_raw ht hc hpos (by simpa [Value.cells] using hf)
 have hlen := hs.len
 obtain ⟨l, h1, h2, h3⟩ := chunks (f := f) (Good := Good) hpos n xs hlen fun i hi => by
  obtain ⟨m, y, hy⟩ := hr i hi
  have hle : (i + 1) * sz ≤ n * sz := Nat.mul_le_mul_right _ hi
  rw [Nat.add_mul, Nat.one_mul] at hle
  exact hel _ m y hy (by rw [List.length_take, List.length_drop]; omega)
 exact ⟨l, by rw [h2]; exact hs, h1, h3⟩
end
end
section
open Go.RowKit
def stL (V S P F : Int) : List Int := [V, S, P + 1, F]
theorem Rd.set4 {w : World} {g k : Nat} {L : List Nat} {flt : Option (Int × Int)} (h : Rd w g L k flt) {b : Nat} {v0 v1 v2 v3 : Value} (hg : g < b) (ht : ∃ cs t z, w.heap[b]? = some (.cells cs t z) ∧ t ≠ 95) :
  Rd ((((w.setCell ⟨b, 0, none⟩ v0).setCell ⟨b, 1, none⟩ v1).setCell ⟨b, 2, none⟩ v2).setCell ⟨b, 3, none⟩ v3) g L k flt := by
 have step : ∀ (w : World) (o : Nat) (v : Value), (∃ cs t z, w.heap[b]? = some (.cells cs t z) ∧ t ≠ 95) → ∃ cs t z, (w.setCell ⟨b, o, none⟩ v).heap[b]? = some (.cells cs t z) ∧ t ≠ 95 := by
  rintro w o v ⟨cs, t, z, h1, h2⟩
  obtain ⟨cs', h3⟩ := heap_set_type (p := ⟨b, o, none⟩) (v := v) h1
  exact ⟨cs', t, z, h3, h2⟩
 have t1 := step w 0 v0 ht
 have t2 := step _ 1 v1 t1
 have t3 := step _ 2 v2 t2
 exact (((h.setOther hg ht).setOther hg t1).setOther hg t2).setOther hg t3
theorem But.mono2 {g b : Nat} {w w' : World} (h : But (fun k => k = g ∨ k = b) w w') (hb : w.heap.size ≤ b) : But (· = g) w w' := h.mono fun k hk hs => by rcases hs with rfl | rfl; rfl; omega
def fltB (flt : Option (Int × Int)) (k n : Nat) : Bool := leftF flt k n == 0 && (endF flt k n).1 != 0
theorem tfaulty_any (g k : Nat) (L : List Nat) (flt : Option (Int × Int)) (w : World) (h : Rd w g L k flt) (hL : L.length < 1099511627776) :
  Calls Tryz.prog 168 #[.pointer (some ⟨g, 0, none⟩)] w fun r w' => r = .returned (.bool (fltB flt k L.length)) ∧ Ext w w' := by
 have C1 := Lib.hid (cLeft_any g k L flt w h hL)
 have H := Lib.hid h
 have HL := Lib.hid hL
 unfold fltB
 obtain ⟨l, hl⟩ : ∃ l, leftF flt k L.length = l := ⟨_, rfl⟩
 obtain ⟨e, he⟩ : ∃ e, (endF flt k L.length).1 = e := ⟨_, rfl⟩
 have C2 := Lib.hid (fun w h => cEnd_any g k L flt w h hL)
 rw [hl] at C1
 rw [he] at C2
 rw [hl, he]
 generalize (endF flt k L.length).2 = e2 at C2
 clear h hL hl he
 have hfd : ∀ w : World, (Instr.field 95 (.agg #[.int .i64 e, .int .i64 e2]) 0).run Tryz.prog w = .ok (.int .i64 e) w := fun _ => by kernel_rfl
 obtain ⟨p, hp⟩ : ∃ p, (l == 0) = p := ⟨_, rfl⟩
 rw [hp]
 cases p
 ·go_enter Tryz.func168, Tryz.ntmps168
  go_wp2_with fail
  refine C1.out.mono ?_
  rintro r w1 ⟨rfl, hx1⟩
  have X1 := Lib.hid hx1
  clear hx1
  go_wp2_with fail
  go_ret
  exact ⟨rfl, X1.out⟩
 go_enter Tryz.func168, Tryz.ntmps168
 go_wp2_with fail
 refine C1.out.mono ?_
 rintro r w1 ⟨rfl, hx1⟩
 have X1 := Lib.hid hx1
 have H1 := Lib.hid (H.out.keep hx1)
 clear hx1 H C1
 go_wp2_with fail
 refine (C2.out _ H1.out).mono ?_
 rintro r w2 ⟨rfl, hx2⟩
 have X2 := Lib.hid (X1.out.trans hx2)
 clear hx2 X1 H1 C2
 go_wp2_with fail
 go_ret
 exact ⟨by simp [bne], X2.out⟩
theorem rnV_bound (L : List Nat) (k : Nat) (flt : Option (Int × Int)) (least most : Int) (h2 : 0 ≤ most) : 0 ≤ rnV L k flt least most ∧ rnV L k flt least most ≤ most := by
 unfold rnV
 split
 ·rename_i h
  obtain ⟨_, h1⟩ := rnE_zero h.2
  exact ⟨by omega, h1⟩
 exact ⟨Int.le_refl _, h2⟩
theorem tTake_at (g k k1 k2 k3 k4 : Nat) (L : List Nat) (f f1 f2 f3 f4 f5 : Option (Int × Int)) (at_ V S Q F E : Int) (b b2 : Bool) (q0 : 0 ≤ Q) (q1 : Q ≤ 32)
  (CA : Hid (∀ w, Rd w g L k f → Calls Tryz.prog 107 #[.pointer (some ⟨g, 0, none⟩)] w fun r w' => r = .returned (.int .i64 at_) ∧ w = w'))
  (C1 : Hid (∀ w, Rd w g L k f → Calls Tryz.prog 106 #[.pointer (some ⟨g, 0, none⟩), .int .i64 0, .int .i64 31] w (RdP g L w V k1 f1)))
  (C2 : Hid (∀ w, Rd w g L k1 f1 → Calls Tryz.prog 106 #[.pointer (some ⟨g, 0, none⟩), .int .i64 1, .int .i64 4294967296] w (RdP g L w S k2 f2)))
  (C3 : Hid (∀ w, Rd w g L k2 f2 → Calls Tryz.prog 106 #[.pointer (some ⟨g, 0, none⟩), .int .i64 0, .int .i64 32] w (RdP g L w Q k3 f3)))
  (C4 : Hid (∀ w, Rd w g L k3 f3 → Calls Tryz.prog 106 #[.pointer (some ⟨g, 0, none⟩), .int .i64 0, .int .i64 4294967296] w (RdP g L w F k4 f4)))
  (C5 : Hid (∀ w, Rd w g L k4 f4 → Calls Tryz.prog 168 #[.pointer (some ⟨g, 0, none⟩)] w fun r w' => r = .returned (.bool b) ∧ Ext w w'))
  (CK : Hid (∀ w, Calls Tryz.prog 89 #[.agg #[.int .i64 V, .int .i64 S, .int .i64 (Q - 1), .int .i64 F]] w fun r w' => r = .returned (.int .i64 E) ∧ Ext w w'))
  (C6 : Hid (∀ w, Rd w g L k4 f4 → Calls Tryz.prog 111 #[.pointer (some ⟨g, 0, none⟩), .int .i64 E, .int .i64 at_] w fun r w' => (∃ v, r = .returned v) ∧ Rd w' g L k4 (failF f4 E at_) ∧ But (· = g) w w'))
  (h5 : (if b = true then f4 else failF f4 E at_) = f5)
  (C7 : Hid (∀ w, Rd w g L k4 f5 → Calls Tryz.prog 168 #[.pointer (some ⟨g, 0, none⟩)] w fun r w' => r = .returned (.bool b2) ∧ Ext w w'))
  (w : World) (h : Rd w g L k f) :
  Calls Tryz.prog 108 #[.pointer (some ⟨g, 0, none⟩)] w fun r w' => r = .returned (.agg #[.int .i64 (if b2 = true then 0 else V), .int .i64 (if b2 = true then 0 else S), .int .i64 (if b2 = true then 0 else Q - 1), .int .i64 (if b2 = true then 0 else F)]) ∧ Rd w' g L k4 f5 ∧ But (· = g) w w' := by
 have lt := h.lt
 have H := Lib.hid (h.keep (w' := w.alloc (.cells #[.int .i64 0, .int .i64 0, .int .i64 0, .int .i64 0] 37)) ((Below.refl _ w).alloc (Nat.le_refl _) _))
 clear h
 have hP : -1 ≤ Q - 1 := by omega
 go_enter Tryz.func108, Tryz.ntmps108
 go_wp2_with fail
 refine (CA.out _ H.out).mono ?_
 rintro r w0 ⟨rfl, rfl⟩
 go_wp2_with fail
 refine (C1.out _ H.out).mono ?_
 rintro r w1 ⟨rfl, hr1, hb1⟩
 have hng : ¬ w.heap.size = g := by omega
 have d0 : w1.cell? ⟨w.heap.size, 0, none⟩ = some (.int .i64 0) := hb1.has hng (by simp [go_sem])
 have e0 : w1.frozen? ⟨w.heap.size, 0, none⟩ = false := hb1.froz hng (v := .int .i64 0) (by simp [go_sem]) (by simp [go_sem])
 have d1 : w1.cell? ⟨w.heap.size, 1, none⟩ = some (.int .i64 0) := hb1.has hng (by simp [go_sem])
 have e1 : w1.frozen? ⟨w.heap.size, 1, none⟩ = false := hb1.froz hng (v := .int .i64 0) (by simp [go_sem]) (by simp [go_sem])
 have d2 : w1.cell? ⟨w.heap.size, 2, none⟩ = some (.int .i64 0) := hb1.has hng (by simp [go_sem])
 have e2 : w1.frozen? ⟨w.heap.size, 2, none⟩ = false := hb1.froz hng (v := .int .i64 0) (by simp [go_sem]) (by simp [go_sem])
 have d3 : w1.cell? ⟨w.heap.size, 3, none⟩ = some (.int .i64 0) := hb1.has hng (by simp [go_sem])
 have e3 : w1.frozen? ⟨w.heap.size, 3, none⟩ = false := hb1.froz hng (v := .int .i64 0) (by simp [go_sem]) (by simp [go_sem])
 have z1 := hb1.size
 simp at z1
 have X1 := Lib.hid (show But (· = g) (w.alloc (.cells #[.int .i64 0, .int .i64 0, .int .i64 0, .int .i64 0] 37)) w1 from hb1)
 have H1 := Lib.hid hr1
 clear hr1 hb1 H C1 CA
 go_wp2_with fail
 refine (C2.out _ H1.out).mono ?_
 rintro r w2 ⟨rfl, hr2, hb2⟩
 replace e0 := hb2.froz hng d0 e0
 replace d0 := hb2.has hng d0
 replace e1 := hb2.froz hng d1 e1
 replace d1 := hb2.has hng d1
 replace e2 := hb2.froz hng d2 e2
 replace d2 := hb2.has hng d2
 replace e3 := hb2.froz hng d3 e3
 replace d3 := hb2.has hng d3
 have z2 := hb2.size
 have X2 := Lib.hid (X1.out.trans hb2)
 have r0 : w.heap.size < w2.heap.size := by omega
 have r01 : w.heap.size < w2.heap.size := r0
 have r00 : w.heap.size ≤ w2.heap.size ∧ g < w2.heap.size := ⟨by omega, by omega⟩
 have hng2 : ¬ w2.heap.size = g := by omega
 have H2 := Lib.hid (hr2.keep ((Below.refl _ w2).alloc (Nat.le_refl _) (.cells #[.int .i64 V, .int .i64 S, .int .i64 0, .int .i64 0] 37)))
 clear hr2 hb2 H1 X1 C2 z1 z2
 go_wp2_with fail
 refine (C3.out _ H2.out).mono ?_
 rintro r w3 ⟨rfl, hr3, hb3⟩
 have z3 := hb3.size
 simp at z3
 have hxx := (But.ofExt (S := (· = g)) ((Ext.refl w2).alloc (.cells #[.int .i64 V, .int .i64 S, .int .i64 0, .int .i64 0] 37))).trans hb3
 replace e0 := hxx.froz hng d0 e0
 replace d0 := hxx.has hng d0
 replace e1 := hxx.froz hng d1 e1
 replace d1 := hxx.has hng d1
 replace e2 := hxx.froz hng d2 e2
 replace d2 := hxx.has hng d2
 replace e3 := hxx.froz hng d3 e3
 replace d3 := hxx.has hng d3
 have s0 : w3.cell? ⟨w2.heap.size, 0, none⟩ = some (.int .i64 V) := hb3.has hng2 (by simp [go_sem])
 have t0 : w3.frozen? ⟨w2.heap.size, 0, none⟩ = false := hb3.froz hng2 (v := .int .i64 V) (by simp [go_sem]) (by simp [go_sem])
 have s1 : w3.cell? ⟨w2.heap.size, 1, none⟩ = some (.int .i64 S) := hb3.has hng2 (by simp [go_sem])
 have t1 : w3.frozen? ⟨w2.heap.size, 1, none⟩ = false := hb3.froz hng2 (v := .int .i64 S) (by simp [go_sem]) (by simp [go_sem])
 have s2 : w3.cell? ⟨w2.heap.size, 2, none⟩ = some (.int .i64 0) := hb3.has hng2 (by simp [go_sem])
 have t2 : w3.frozen? ⟨w2.heap.size, 2, none⟩ = false := hb3.froz hng2 (v := .int .i64 0) (by simp [go_sem]) (by simp [go_sem])
 have s3 : w3.cell? ⟨w2.heap.size, 3, none⟩ = some (.int .i64 0) := hb3.has hng2 (by simp [go_sem])
 have t3 : w3.frozen? ⟨w2.heap.size, 3, none⟩ = false := hb3.froz hng2 (v := .int .i64 0) (by simp [go_sem]) (by simp [go_sem])
 have HT : ∃ cs t z, w3.heap[w2.heap.size]? = some (.cells cs t z) ∧ t ≠ 95 := ⟨_, _, _, (hb3.block w2.heap.size (by simp) hng2).trans (World.alloc_heap_new w2 (.cells #[.int .i64 V, .int .i64 S, .int .i64 0, .int .i64 0] 37)), by decide⟩
 have X3 := Lib.hid (X2.out.trans hxx)
 have r1 : w.heap.size < w3.heap.size := by omega
 have r2 : w2.heap.size < w3.heap.size := by omega
 have n1 : ¬ w2.heap.size = w.heap.size := by omega
 have n2 : ¬ w.heap.size = w2.heap.size := by omega
 have H3 := Lib.hid ((hr3.setOther (b := w2.heap.size) (o := 2) (v := .int .i64 (Q - 1)) (by omega) HT))
 clear hr3 hb3 H2 X2 C3 hxx z3 r0
 go_wp2_with fail
 refine (C4.out _ H3.out).mono ?_
 rintro r w4 ⟨rfl, hr4, hb4⟩
 have hxx : But (fun k => k = g ∨ k = w2.heap.size) w3 w4 := ((But.refl (fun k => k = g ∨ k = w2.heap.size) w3).setCell (p := ⟨w2.heap.size, 2, none⟩) (.inr rfl) (.int .i64 (Q - 1))).trans (hb4.mono (fun k _ hk => .inl hk))
 have hng3 : ¬ (w.heap.size = g ∨ w.heap.size = w2.heap.size) := by omega
 replace e0 := hxx.froz hng3 d0 e0
 replace d0 := hxx.has hng3 d0
 replace e1 := hxx.froz hng3 d1 e1
 replace d1 := hxx.has hng3 d1
 replace e2 := hxx.froz hng3 d2 e2
 replace d2 := hxx.has hng3 d2
 replace e3 := hxx.froz hng3 d3 e3
 replace d3 := hxx.has hng3 d3
 have t0' : w4.frozen? ⟨w2.heap.size, 0, none⟩ = false := hb4.froz hng2 (v := .int .i64 V) zSlTbk1_4 zSlTbk1_4
 have t1' : w4.frozen? ⟨w2.heap.size, 1, none⟩ = false := hb4.froz hng2 (v := .int .i64 S) zSlTbk1_4 zSlTbk1_4
 have t2' : w4.frozen? ⟨w2.heap.size, 2, none⟩ = false := hb4.froz hng2 (v := .int .i64 (Q - 1)) zSlTbk1_4 zSlTbk1_4
 have t3' : w4.frozen? ⟨w2.heap.size, 3, none⟩ = false := hb4.froz hng2 (v := .int .i64 0) zSlTbk1_4 zSlTbk1_4
 have s0' : w4.cell? ⟨w2.heap.size, 0, none⟩ = some (.int .i64 V) := hb4.has hng2 zSlTbk1_4
 have s1' : w4.cell? ⟨w2.heap.size, 1, none⟩ = some (.int .i64 S) := hb4.has hng2 zSlTbk1_4
 have s2' : w4.cell? ⟨w2.heap.size, 2, none⟩ = some (.int .i64 (Q - 1)) := hb4.has hng2 zSlTbk1_4
 have s3' : w4.cell? ⟨w2.heap.size, 3, none⟩ = some (.int .i64 0) := hb4.has hng2 zSlTbk1_4
 clear s0 s1 s2 s3 t0 t1 t2 t3
 have s0 := s0'
 have t0 := t0'
 have s1 := s1'
 have t1 := t1'
 have s2 := s2'
 have t2 := t2'
 have s3 := s3'
 have t3 := t3'
 clear s0' s1' s2' s3' t0' t1' t2' t3'
 have HT4 : ∃ cs t z, w4.heap[w2.heap.size]? = some (.cells cs t z) ∧ t ≠ 95 := by
  obtain ⟨cs, t, z, k1, k2⟩ := HT
  have k3 := heap_set_type (w := w3) (p := ⟨w2.heap.size, 2, none⟩) (v := .int .i64 (Q - 1)) k1
  obtain ⟨cs', k3⟩ := k3
  exact ⟨cs', t, z, (hb4.block w2.heap.size (by simpa using r2) hng2).trans k3, k2⟩
 have z4 := hb4.size
 simp at z4
 have X4 := Lib.hid (show But (fun k => k = g ∨ k = w2.heap.size) (w.alloc (.cells #[.int .i64 0, .int .i64 0, .int .i64 0, .int .i64 0] 37)) w4 from (X3.out.mono (fun k _ hk => .inl hk)).trans hxx)
 replace r1 : w.heap.size < w4.heap.size := by omega
 replace r2 : w2.heap.size < w4.heap.size := by omega
 have H4 := Lib.hid (hr4.setOther (b := w2.heap.size) (o := 3) (v := .int .i64 F) r00.2 HT4)
 clear hr4 hb4 H3 X3 C4 hxx z4 HT HT4
 cases b
 ·rw [if_neg (by decide)] at h5
  subst h5
  go_wp2_with fail
  refine (C5.out _ H4.out).mono ?_
  rintro r w5 ⟨rfl, hx5⟩
  have e0' : w5.frozen? ⟨w.heap.size, 0, none⟩ = false := hx5.froz (v := .int .i64 0) zSlTbk1_1 zSlTbk1_1
  have e1' : w5.frozen? ⟨w.heap.size, 1, none⟩ = false := hx5.froz (v := .int .i64 0) zSlTbk1_1 zSlTbk1_1
  have e2' : w5.frozen? ⟨w.heap.size, 2, none⟩ = false := hx5.froz (v := .int .i64 0) zSlTbk1_1 zSlTbk1_1
  have e3' : w5.frozen? ⟨w.heap.size, 3, none⟩ = false := hx5.froz (v := .int .i64 0) zSlTbk1_1 zSlTbk1_1
  have d0' : w5.cell? ⟨w.heap.size, 0, none⟩ = some (.int .i64 0) := hx5.has zSlTbk1_1
  have d1' : w5.cell? ⟨w.heap.size, 1, none⟩ = some (.int .i64 0) := hx5.has zSlTbk1_1
  have d2' : w5.cell? ⟨w.heap.size, 2, none⟩ = some (.int .i64 0) := hx5.has zSlTbk1_1
  have d3' : w5.cell? ⟨w.heap.size, 3, none⟩ = some (.int .i64 0) := hx5.has zSlTbk1_1
  have s0' : w5.cell? ⟨w2.heap.size, 0, none⟩ = some (.int .i64 V) := hx5.has zSlTbk1_6
  have s1' : w5.cell? ⟨w2.heap.size, 1, none⟩ = some (.int .i64 S) := hx5.has zSlTbk1_6
  have s2' : w5.cell? ⟨w2.heap.size, 2, none⟩ = some (.int .i64 (Q - 1)) := hx5.has zSlTbk1_6
  have s3' : w5.cell? ⟨w2.heap.size, 3, none⟩ = some (.int .i64 F) := hx5.has zSlTbk1_6
  clear d0 d1 d2 d3 e0 e1 e2 e3 s0 s1 s2 s3 t0 t1 t2 t3
  have d0 := d0'
  have e0 := e0'
  have s0 := s0'
  have d1 := d1'
  have e1 := e1'
  have s1 := s1'
  have d2 := d2'
  have e2 := e2'
  have s2 := s2'
  have d3 := d3'
  have e3 := e3'
  have s3 := s3'
  clear d0' d1' d2' d3' e0' e1' e2' e3' s0' s1' s2' s3'
  have X5 := Lib.hid (show But (fun k => k = g ∨ k = w2.heap.size) (w.alloc (.cells #[.int .i64 0, .int .i64 0, .int .i64 0, .int .i64 0] 37)) w5 from (X4.out.setCell (p := ⟨w2.heap.size, 3, none⟩) (.inr rfl) (.int .i64 F)).trans (But.ofExt hx5))
  have H5 := Lib.hid (H4.out.keep hx5)
  have z5 := Ext.size hx5
  simp at z5
  clear hx5 H4 X4 C5
  go_wp2_with fail
  refine (CK.out _).mono ?_
  rintro r w6 ⟨rfl, hx6⟩
  replace e0 := hx6.froz d0 e0
  replace d0 := hx6.has d0
  replace s0 := hx6.has s0
  replace e1 := hx6.froz d1 e1
  replace d1 := hx6.has d1
  replace s1 := hx6.has s1
  replace e2 := hx6.froz d2 e2
  replace d2 := hx6.has d2
  replace s2 := hx6.has s2
  replace e3 := hx6.froz d3 e3
  replace d3 := hx6.has d3
  replace s3 := hx6.has s3
  have X6 := Lib.hid (X5.out.trans (But.ofExt hx6))
  have H6 := Lib.hid (H5.out.keep hx6)
  clear hx6 H5 X5 CK
  go_wp2_with fail
  refine (C6.out _ H6.out).mono ?_
  rintro r w7 ⟨⟨v7, rfl⟩, hr7, hb7⟩
  replace e0 := hb7.froz hng d0 e0
  replace d0 := hb7.has hng d0
  replace s0 := hb7.has hng2 s0
  replace e1 := hb7.froz hng d1 e1
  replace d1 := hb7.has hng d1
  replace s1 := hb7.has hng2 s1
  replace e2 := hb7.froz hng d2 e2
  replace d2 := hb7.has hng d2
  replace s2 := hb7.has hng2 s2
  replace e3 := hb7.froz hng d3 e3
  replace d3 := hb7.has hng d3
  replace s3 := hb7.has hng2 s3
  have X7 := Lib.hid (X6.out.trans (hb7.mono (fun k _ hk => .inl hk)))
  have H7 := Lib.hid hr7
  clear hr7 hb7 H6 X6 C6
  go_wp2_with fail
  refine (C7.out _ H7.out).mono ?_
  rintro r w8 ⟨rfl, hx8⟩
  replace e0 := hx8.froz d0 e0
  replace d0 := hx8.has d0
  replace s0 := hx8.has s0
  replace e1 := hx8.froz d1 e1
  replace d1 := hx8.has d1
  replace s1 := hx8.has s1
  replace e2 := hx8.froz d2 e2
  replace d2 := hx8.has d2
  replace s2 := hx8.has s2
  replace e3 := hx8.froz d3 e3
  replace d3 := hx8.has d3
  replace s3 := hx8.has s3
  have X8 := Lib.hid (X7.out.trans (But.ofExt hx8))
  have H8 := Lib.hid (H7.out.keep hx8)
  have HR8 := Lib.hid hx8
  have lt8 := H8.out.lt
  have XG := Lib.hid (show But (· = g) w w8 from (But.ofExt ((Ext.refl w).alloc _)).trans (X8.out.mono2 (by simp; omega)))
  have HTr : Hid (∃ cs t z, w8.heap[w.heap.size]? = some (.cells cs t z) ∧ t ≠ 95) := Lib.hid ⟨_, _, _, (X8.out.block w.heap.size (by simp) hng3).trans (World.alloc_heap_new w _), by decide⟩
  clear hx8 H7 X7 C7
  cases b2
  ·go_wp2_with fail
   refine bodyPost_ret (v := .agg #[.int .i64 V, .int .i64 S, .int .i64 (Q - 1), .int .i64 F]) (by simp [results, Tryz.results108, go_sem, d0, d1, d2, d3, e0, e1, e2, e3]; try rfl) rfl ⟨rfl, ?_, ?_⟩
   ·exact H8.out.set4 lt HTr.out
   exact (((XG.out.setNew (p := ⟨w.heap.size, 0, none⟩) (Nat.le_refl _) _).setNew (p := ⟨w.heap.size, 1, none⟩) (Nat.le_refl _) _).setNew (p := ⟨w.heap.size, 2, none⟩) (Nat.le_refl _) _).setNew (p := ⟨w.heap.size, 3, none⟩) (Nat.le_refl _) _
  go_wp2_with fail
  refine bodyPost_ret (v := .agg #[.int .i64 0, .int .i64 0, .int .i64 0, .int .i64 0]) (by simp [results, Tryz.results108, go_sem, d0, d1, d2, d3, e0, e1, e2, e3]; try rfl) rfl ⟨rfl, ?_, ?_⟩
  ·exact H8.out.set4 lt HTr.out
  exact (((XG.out.setNew (p := ⟨w.heap.size, 0, none⟩) (Nat.le_refl _) _).setNew (p := ⟨w.heap.size, 1, none⟩) (Nat.le_refl _) _).setNew (p := ⟨w.heap.size, 2, none⟩) (Nat.le_refl _) _).setNew (p := ⟨w.heap.size, 3, none⟩) (Nat.le_refl _) _
 rw [if_pos rfl] at h5
 subst h5
 go_wp2_with fail
 refine (C5.out _ H4.out).mono ?_
 rintro r w5 ⟨rfl, hx5⟩
 have e0' : w5.frozen? ⟨w.heap.size, 0, none⟩ = false := hx5.froz (v := .int .i64 0) zSlTbk1_1 zSlTbk1_1
 have e1' : w5.frozen? ⟨w.heap.size, 1, none⟩ = false := hx5.froz (v := .int .i64 0) zSlTbk1_1 zSlTbk1_1
 have e2' : w5.frozen? ⟨w.heap.size, 2, none⟩ = false := hx5.froz (v := .int .i64 0) zSlTbk1_1 zSlTbk1_1
 have e3' : w5.frozen? ⟨w.heap.size, 3, none⟩ = false := hx5.froz (v := .int .i64 0) zSlTbk1_1 zSlTbk1_1
 have d0' : w5.cell? ⟨w.heap.size, 0, none⟩ = some (.int .i64 0) := hx5.has zSlTbk1_1
 have d1' : w5.cell? ⟨w.heap.size, 1, none⟩ = some (.int .i64 0) := hx5.has zSlTbk1_1
 have d2' : w5.cell? ⟨w.heap.size, 2, none⟩ = some (.int .i64 0) := hx5.has zSlTbk1_1
 have d3' : w5.cell? ⟨w.heap.size, 3, none⟩ = some (.int .i64 0) := hx5.has zSlTbk1_1
 have s0' : w5.cell? ⟨w2.heap.size, 0, none⟩ = some (.int .i64 V) := hx5.has zSlTbk1_6
 have s1' : w5.cell? ⟨w2.heap.size, 1, none⟩ = some (.int .i64 S) := hx5.has zSlTbk1_6
 have s2' : w5.cell? ⟨w2.heap.size, 2, none⟩ = some (.int .i64 (Q - 1)) := hx5.has zSlTbk1_6
 have s3' : w5.cell? ⟨w2.heap.size, 3, none⟩ = some (.int .i64 F) := hx5.has zSlTbk1_6
 clear d0 d1 d2 d3 e0 e1 e2 e3 s0 s1 s2 s3 t0 t1 t2 t3
 have d0 := d0'
 have e0 := e0'
 have s0 := s0'
 have d1 := d1'
 have e1 := e1'
 have s1 := s1'
 have d2 := d2'
 have e2 := e2'
 have s2 := s2'
 have d3 := d3'
 have e3 := e3'
 have s3 := s3'
 clear d0' d1' d2' d3' e0' e1' e2' e3' s0' s1' s2' s3'
 have X7 := Lib.hid (show But (fun k => k = g ∨ k = w2.heap.size) (w.alloc (.cells #[.int .i64 0, .int .i64 0, .int .i64 0, .int .i64 0] 37)) w5 from (X4.out.setCell (p := ⟨w2.heap.size, 3, none⟩) (.inr rfl) (.int .i64 F)).trans (But.ofExt hx5))
 have H7 := Lib.hid (H4.out.keep hx5)
 clear hx5 H4 X4 C5 C6 CK
 go_wp2_with fail
 refine (C7.out _ H7.out).mono ?_
 rintro r w8 ⟨rfl, hx8⟩
 replace e0 := hx8.froz d0 e0
 replace d0 := hx8.has d0
 replace s0 := hx8.has s0
 replace e1 := hx8.froz d1 e1
 replace d1 := hx8.has d1
 replace s1 := hx8.has s1
 replace e2 := hx8.froz d2 e2
 replace d2 := hx8.has d2
 replace s2 := hx8.has s2
 replace e3 := hx8.froz d3 e3
 replace d3 := hx8.has d3
 replace s3 := hx8.has s3
 have X8 := Lib.hid (X7.out.trans (But.ofExt hx8))
 have H8 := Lib.hid (H7.out.keep hx8)
 have HR8 := Lib.hid hx8
 have lt8 := H8.out.lt
 have XG := Lib.hid (show But (· = g) w w8 from (But.ofExt ((Ext.refl w).alloc _)).trans (X8.out.mono2 (by simp; omega)))
 have HTr : Hid (∃ cs t z, w8.heap[w.heap.size]? = some (.cells cs t z) ∧ t ≠ 95) := Lib.hid ⟨_, _, _, (X8.out.block w.heap.size (by simp) hng3).trans (World.alloc_heap_new w _), by decide⟩
 clear hx8 H7 X7 C7
 cases b2
 ·go_wp2_with fail
  refine bodyPost_ret (v := .agg #[.int .i64 V, .int .i64 S, .int .i64 (Q - 1), .int .i64 F]) (by simp [results, Tryz.results108, go_sem, d0, d1, d2, d3, e0, e1, e2, e3]; try rfl) rfl ⟨rfl, ?_, ?_⟩
  ·exact H8.out.set4 lt HTr.out
  exact (((XG.out.setNew (p := ⟨w.heap.size, 0, none⟩) (Nat.le_refl _) _).setNew (p := ⟨w.heap.size, 1, none⟩) (Nat.le_refl _) _).setNew (p := ⟨w.heap.size, 2, none⟩) (Nat.le_refl _) _).setNew (p := ⟨w.heap.size, 3, none⟩) (Nat.le_refl _) _
 go_wp2_with fail
 refine bodyPost_ret (v := .agg #[.int .i64 0, .int .i64 0, .int .i64 0, .int .i64 0]) (by simp [results, Tryz.results108, go_sem, d0, d1, d2, d3, e0, e1, e2, e3]; try rfl) rfl ⟨rfl, ?_, ?_⟩
 ·exact H8.out.set4 lt HTr.out
 exact (((XG.out.setNew (p := ⟨w.heap.size, 0, none⟩) (Nat.le_refl _) _).setNew (p := ⟨w.heap.size, 1, none⟩) (Nat.le_refl _) _).setNew (p := ⟨w.heap.size, 2, none⟩) (Nat.le_refl _) _).setNew (p := ⟨w.heap.size, 3, none⟩) (Nat.le_refl _) _
def tkS (L : List Nat) (s : Nat × Option (Int × Int)) (lo hi : Int) : Nat × Option (Int × Int) := (rnK L s.1 s.2 lo hi, rnF L s.1 s.2 lo hi)
def tkV (L : List Nat) (s : Nat × Option (Int × Int)) (lo hi : Int) : Int := rnV L s.1 s.2 lo hi
def tk1 (L : List Nat) (s : Nat × Option (Int × Int)) := tkS L s 0 31
def tk2 (L : List Nat) (s : Nat × Option (Int × Int)) := tkS L (tk1 L s) 1 4294967296
def tk3 (L : List Nat) (s : Nat × Option (Int × Int)) := tkS L (tk2 L s) 0 32
def tk4 (L : List Nat) (s : Nat × Option (Int × Int)) := tkS L (tk3 L s) 0 4294967296
def tkA (L : List Nat) (s : Nat × Option (Int × Int)) : Int := tkV L s 0 31
def tkB (L : List Nat) (s : Nat × Option (Int × Int)) : Int := tkV L (tk1 L s) 1 4294967296
def tkC (L : List Nat) (s : Nat × Option (Int × Int)) : Int := tkV L (tk2 L s) 0 32
def tkD (L : List Nat) (s : Nat × Option (Int × Int)) : Int := tkV L (tk3 L s) 0 4294967296
def tkF (L : List Nat) (s : Nat × Option (Int × Int)) : Option (Int × Int) :=
 if fltB (tk4 L s).2 (tk4 L s).1 L.length = true then (tk4 L s).2 else failF (tk4 L s).2 (chkS (tkA L s) (tkB L s) (tkC L s - 1) (tkD L s)) (atF s.2 s.1)
def tkZ (L : List Nat) (s : Nat × Option (Int × Int)) : Bool := fltB (tkF L s) (tk4 L s).1 L.length
theorem tTake_any (g k : Nat) (L : List Nat) (f : Option (Int × Int)) (hL : L.length < 1099511627776) (w : World) (h : Rd w g L k f) :
  Calls Tryz.prog 108 #[.pointer (some ⟨g, 0, none⟩)] w fun r w' => r = .returned (.agg #[.int .i64 (if tkZ L (k, f) = true then 0 else tkA L (k, f)), .int .i64 (if tkZ L (k, f) = true then 0 else tkB L (k, f)), .int .i64 (if tkZ L (k, f) = true then 0 else tkC L (k, f) - 1), .int .i64 (if tkZ L (k, f) = true then 0 else tkD L (k, f))]) ∧
   Rd w' g L (tk4 L (k, f)).1 (tkF L (k, f)) ∧ But (· = g) w w' := by
 have hq := rnV_bound L (tk2 L (k, f)).1 (tk2 L (k, f)).2 0 32 (by decide)
 exact tTake_at g k (tk1 L (k, f)).1 (tk2 L (k, f)).1 (tk3 L (k, f)).1 (tk4 L (k, f)).1 L f (tk1 L (k, f)).2 (tk2 L (k, f)).2 (tk3 L (k, f)).2 (tk4 L (k, f)).2 (tkF L (k, f)) (atF f k) (tkA L (k, f)) (tkB L (k, f)) (tkC L (k, f)) (tkD L (k, f)) _ _ (tkZ L (k, f)) hq.1 hq.2
  (Lib.hid fun w h => cAt_any g k L f w h)
  (Lib.hid fun w h => cRN_any g _ L _ 0 31 (by decide) (by decide) (by decide) (by decide) hL w h)
  (Lib.hid fun w h => cRN_any g _ L _ 1 4294967296 (by decide) (by decide) (by decide) (by decide) hL w h)
  (Lib.hid fun w h => cRN_any g _ L _ 0 32 (by decide) (by decide) (by decide) (by decide) hL w h)
  (Lib.hid fun w h => cRN_any g _ L _ 0 4294967296 (by decide) (by decide) (by decide) (by decide) hL w h)
  (Lib.hid fun w h => tfaulty_any g _ L _ w h hL) (Lib.hid fun w => tCheck_any _ _ _ _ w)
  (Lib.hid fun w h => cFail_any g _ L _ _ _ w h) rfl (Lib.hid fun w h => tfaulty_any g _ L _ w h hL) w h
def wnS (lim : Int) (s : Int × List Nat) (n : Int) : Int × List Nat := (wNE lim s.1 s.2 n, wNL lim s.1 s.2 n)
def wnAll (lim : Int) (s : Int × List Nat) (l : List Int) : Int × List Nat := l.foldl (wnS lim) s
theorem wnS_err {lim : Int} {s : Int × List Nat} {n : Int} (h : ¬ s.1 = 0) : wnS lim s n = s := by
 unfold wnS wNE wNL
 rw [if_neg h, if_neg h]
theorem wnAll_err {lim : Int} {s : Int × List Nat} (h : ¬ s.1 = 0) : ∀ l, wnAll lim s l = s := by
 intro l
 induction l with
 | nil => rfl
 | cons n l ih => show wnAll lim (wnS lim s n) l = s; rw [wnS_err h]; exact ih
theorem wnAll_snoc (lim : Int) (s : Int × List Nat) (l : List Int) (n : Int) : wnAll lim s (l ++ [n]) = wnS lim (wnAll lim s l) n := by
 unfold wnAll; rw [List.foldl_append]; rfl
theorem wnAll_append (lim : Int) (s : Int × List Nat) (l m : List Int) : wnAll lim s (l ++ m) = wnAll lim (wnAll lim s l) m := by
 unfold wnAll; rw [List.foldl_append]
def putST (lim : Int) (s : Int × List Nat) (V S P F : Int) : Int × List Nat := if chkS V S P F = 0 then wnAll lim s (stL V S P F) else s
def putRE (lim : Int) (s : Int × List Nat) (V S P F : Int) : Int := if chkS V S P F = 0 then (wnAll lim s (stL V S P F)).1 else chkS V S P F

theorem done_out {L : List Nat} {E : Int} {r : Ending} {w w' : World} (h : ByErr L E w r w') : ∃ v, r = .returned (.tuple #[v, .int .i64 E]) ∧ Ext w w' := by
 obtain ⟨v, h1, _, h2⟩ := h
 exact ⟨v, h1, h2⟩
theorem tPut_badF (g : Nat) (lim err : Int) (L : List Nat) (V S P F E : Int) (hE : chkS V S P F = E) (he : ¬ E = 0) (h1 : ¬ err = 1) (w : World) (h : Wr w g lim err L) :
  Calls Tryz.prog 97 #[.pointer (some ⟨g, 0, none⟩), .agg #[.int .i64 V, .int .i64 S, .int .i64 P, .int .i64 F]] w fun r w' => r = .returned (.int .i64 E) ∧ Wr w' g lim err L ∧ Ext w w' := by
 have CK := fun w => tCheck_any V S P F w
 rw [hE] at CK
 replace CK := Lib.hid CK
 have hb : (E == 0) = false := beq_false_of_ne he
 have hb2 : (E != 0) = true := by simpa using he
 have h1b : (err == 1) = false := beq_false_of_ne h1
 have HW := Lib.hid h
 clear hE he h1 h
 go_enter Tryz.func97, Tryz.ntmps97
 go_wp2_with fail
 (with_reducible refine ((Calls.mono (cDone_any g lim err L _ (HW.out.ext zxt)) fun r w' h => done_out h)).mono ?_)
 rintro e w1 ⟨v, rfl, hx1⟩
 have c0_0 : w1.cell? ⟨w.heap.size, 0, none⟩ = some (.int .i64 V) := hx1.has zSlTbk1_5
 have c0_1 : w1.cell? ⟨w.heap.size, 1, none⟩ = some (.int .i64 S) := hx1.has zSlTbk1_5
 have c0_2 : w1.cell? ⟨w.heap.size, 2, none⟩ = some (.int .i64 P) := hx1.has zSlTbk1_5
 have c0_3 : w1.cell? ⟨w.heap.size, 3, none⟩ = some (.int .i64 F) := hx1.has zSlTbk1_5
 have z1 := hx1.size
 try simp at z1
 have rc0 := zr w.heap.size w1
 replace HW := Lib.hid (HW.out.ext (Ext.trans zxt hx1))
 have X1 : Hid (Ext w w1) := Lib.hid (Ext.trans zxt hx1)
 clear hx1 z1
 go_wp2_with fail
 (with_reducible refine (CK.out _).mono ?_)
 rintro e w2 ⟨rfl, hx2⟩
 have z2 := hx2.size
 try simp at z2
 replace HW := Lib.hid (HW.out.ext (Ext.trans zxt hx2))
 have X2 : Hid (Ext w w2) := Lib.hid (Ext.trans zxt hx2)
 clear c0_1 c0_2 c0_3 c0_0 rc0 X1 hx2 z2
 go_wp2_with fail
 go_ret
 exact ⟨rfl, HW.out.ext zxt, zxt⟩
theorem tPut_okF (g : Nat) (lim err : Int) (L : List Nat) (V S P F : Int) (hk : StampOk V S P F) (h1 : ¬ err = 1) (w : World) (h : Wr w g lim err L) :
  Calls Tryz.prog 97 #[.pointer (some ⟨g, 0, none⟩), .agg #[.int .i64 V, .int .i64 S, .int .i64 P, .int .i64 F]] w fun r w' => r = .returned (.int .i64 (wnAll lim (err, L) (stL V S P F)).1) ∧ Wr w' g lim (wnAll lim (err, L) (stL V S P F)).1 (wnAll lim (err, L) (stL V S P F)).2 ∧ WF g 0 w w' := by
 have CK := fun w => tCheck_any V S P F w
 rw [chkS_of hk] at CK
 replace CK := Lib.hid CK
 have h1b : (err == 1) = false := beq_false_of_ne h1
 obtain ⟨s0, hs0⟩ : ∃ s : Int × List Nat, s = (err, L) := ⟨_, rfl⟩
 have HS0 := Lib.hid hs0
 rw [← hs0]
 clear hs0
 have HW := Lib.hid h
 have lt := Lib.hid h.lt
 have HK := Lib.hid hk
 have hP0 := hk.p0
 have hP1 := hk.p1
 clear h1 h hk
 have i0 : ∀ w : World, (Instr.index 195 (.agg #[.int .i64 V, .int .i64 S, .int .i64 (P + 1), .int .i64 F]) (.int .i64 0)).run Tryz.prog w = .ok (.int .i64 V) w := fun _ => by kernel_rfl
 have i1 : ∀ w : World, (Instr.index 195 (.agg #[.int .i64 V, .int .i64 S, .int .i64 (P + 1), .int .i64 F]) (.int .i64 1)).run Tryz.prog w = .ok (.int .i64 S) w := fun _ => by kernel_rfl
 have i2 : ∀ w : World, (Instr.index 195 (.agg #[.int .i64 V, .int .i64 S, .int .i64 (P + 1), .int .i64 F]) (.int .i64 2)).run Tryz.prog w = .ok (.int .i64 (P + 1)) w := fun _ => by kernel_rfl
 have i3 : ∀ w : World, (Instr.index 195 (.agg #[.int .i64 V, .int .i64 S, .int .i64 (P + 1), .int .i64 F]) (.int .i64 3)).run Tryz.prog w = .ok (.int .i64 F) w := fun _ => by kernel_rfl
 go_enter Tryz.func97, Tryz.ntmps97
 go_wp2_with fail
 (with_reducible refine ((Calls.mono (cDone_any g lim err L _ (HW.out.ext zxt)) fun r w' h => done_out h)).mono ?_)
 rintro e w1 ⟨v, rfl, hx1⟩
 have c0_0 : w1.cell? ⟨w.heap.size, 0, none⟩ = some (.int .i64 V) := hx1.has zSlTbk1_5
 have c0_1 : w1.cell? ⟨w.heap.size, 1, none⟩ = some (.int .i64 S) := hx1.has zSlTbk1_5
 have c0_2 : w1.cell? ⟨w.heap.size, 2, none⟩ = some (.int .i64 P) := hx1.has zSlTbk1_5
 have c0_3 : w1.cell? ⟨w.heap.size, 3, none⟩ = some (.int .i64 F) := hx1.has zSlTbk1_5
 have z1 := hx1.size
 try simp at z1
 have rc0 := zr w.heap.size w1
 replace HW := Lib.hid (HW.out.ext (Ext.trans zxt hx1))
 have X1 : Hid (Ext w w1) := Lib.hid (Ext.trans zxt hx1)
 clear hx1 z1
 go_wp2_with fail
 (with_reducible refine (CK.out _).mono ?_)
 rintro e w2 ⟨rfl, hx2⟩
 replace c0_0 : w2.cell? ⟨w.heap.size, 0, none⟩ = some (.int .i64 V) := hx2.has (by first | exact c0_0 | (simp [go_sem, World.cell?_alloc_past, *]; done))
 replace c0_1 : w2.cell? ⟨w.heap.size, 1, none⟩ = some (.int .i64 S) := hx2.has (by first | exact c0_1 | (simp [go_sem, World.cell?_alloc_past, *]; done))
 replace c0_2 : w2.cell? ⟨w.heap.size, 2, none⟩ = some (.int .i64 P) := hx2.has (by first | exact c0_2 | (simp [go_sem, World.cell?_alloc_past, *]; done))
 replace c0_3 : w2.cell? ⟨w.heap.size, 3, none⟩ = some (.int .i64 F) := hx2.has (by first | exact c0_3 | (simp [go_sem, World.cell?_alloc_past, *]; done))
 have z2 := hx2.size
 try simp at z2
 replace rc0 := zr w.heap.size w2
 replace HW := Lib.hid (HW.out.ext (Ext.trans zxt hx2))
 have X2 : Hid (Ext w w2) := Lib.hid (Ext.trans zxt hx2)
 clear X1 hx2 z2
 go_wp2_with fail
 go_loopg [34] 4 (fun gh i wx => gh ≤ 4 ∧ i = .int .i64 ((4 - gh : Nat) : Int) ∧ Wr wx g lim (wnAll lim s0 ((stL V S P F).take (4 - gh))).1 (wnAll lim s0 ((stL V S P F).take (4 - gh))).2 ∧ (gh < 4 → (wnAll lim s0 ((stL V S P F).take (4 - gh))).1 = 0) ∧ WF g 0 w wx)
 case atStart => exact ⟨Nat.le_refl _, by simp, by rw [Nat.sub_self, List.take_zero, HS0.out]; exact HW.out, fun hh => absurd hh (by omega), WF.ofExt X2.out lt.out⟩
 obtain ⟨hg, hi, hw, hz, hb⟩ := hrel
 have HB := Lib.hid hb
 have HX := Lib.hid hw
 have HZ := Lib.hid hz
 clear hw hb hz
 have step : ∀ (k : Nat) (x : Int), (stL V S P F)[k]? = some x → 4 - gk = k → 0 ≤ x → x ≤ 4294967296 → ∃ (E : Int) (M : List Nat), wnAll lim s0 ((stL V S P F).take (k + 1)) = (E, M) ∧ Hid (Calls Tryz.prog 96 #[.pointer (some ⟨g, 0, none⟩), .int .i64 x] wr fun r w' => r = .returned (.int .i64 E) ∧ Wr w' g lim E M ∧ WF g 0 wr w') := by
  intro k x hx hgk x0 x1
  have hX := HX.out
  rw [hgk] at hX
  have C := cWN_anyF g lim _ _ x (by omega) (by omega) wr hX
  refine ⟨_, _, ?_, C⟩
  obtain ⟨hkl, hkx⟩ := List.getElem?_eq_some_iff.1 hx
  rw [List.take_succ_eq_append_getElem hkl, wnAll_snoc, hkx]
  rfl
 have hv := HK.out.v0; have hv1 := HK.out.v1; have hs0 := HK.out.s0; have hs1 := HK.out.s1; have hf0 := HK.out.f0; have hf1 := HK.out.f1
 have hcase : gk = 0 ∨ gk = 4 ∨ gk = 3 ∨ gk = 2 ∨ gk = 1 := by omega
 rcases hcase with rfl | rfl | rfl | rfl | rfl
 ·change _ = Value.int .i64 4 at hi
  obtain rfl := hi
  clear step
  have h4 : (stL V S P F).take (4 - 0) = stL V S P F := rfl
  have hz := HZ.out (by decide)
  have hw := HX.out
  rw [h4] at hz hw
  have HF := Lib.hid (And.intro hz hw)
  clear hz hw
  go_wp2
  go_ret
  exact ⟨ret_int HF.out.1.symm, HF.out.2, HB.out⟩
 ·change _ = Value.int .i64 0 at hi
  obtain rfl := hi
  obtain ⟨E, M, hEM, C⟩ := step 0 V rfl rfl (by omega) (by omega)
  have HE := Lib.hid hEM
  clear step hv hv1 hs0 hs1 hf0 hf1 hEM
  by_cases he : E = 0
  ·subst he
   go_wp2_with fail
   (with_reducible refine C.out.mono ?_)
   rintro r w3 ⟨rfl, hw3, hb3⟩
   have W3 := Lib.hid (And.intro hw3 (HB.out.trans hb3))
   clear hw3 hb3 C
   go_wp2_with fail
   go_roundg 3
   case measure => decide
   exact ⟨by decide, rfl, by rw [show 4 - 3 = 0 + 1 from rfl, HE.out]; exact W3.out.1, fun _ => by rw [show 4 - 3 = 0 + 1 from rfl, HE.out], W3.out.2⟩
  have heb : (E == 0) = false := beq_false_of_ne he
  have heb2 : (E != 0) = true := by simpa using he
  have HN := Lib.hid he
  clear he
  go_wp2_with fail
  (with_reducible refine C.out.mono ?_)
  rintro r w3 ⟨rfl, hw3, hb3⟩
  have W3 := Lib.hid (And.intro hw3 (HB.out.trans hb3))
  clear hw3 hb3 C
  go_wp2_with fail
  go_ret
  have hall : wnAll lim s0 (stL V S P F) = (E, M) := by
   have h5 := wnAll_append lim s0 ((stL V S P F).take (0 + 1)) ((stL V S P F).drop (0 + 1))
   rw [List.take_append_drop, HE.out, wnAll_err (s := (E, M)) HN.out] at h5
   exact h5
  rw [hall]
  exact ⟨rfl, W3.out.1, W3.out.2⟩
 ·change _ = Value.int .i64 1 at hi
  obtain rfl := hi
  obtain ⟨E, M, hEM, C⟩ := step 1 S rfl rfl (by omega) (by omega)
  have HE := Lib.hid hEM
  clear step hv hv1 hs0 hs1 hf0 hf1 hEM
  by_cases he : E = 0
  ·subst he
   go_wp2_with fail
   (with_reducible refine C.out.mono ?_)
   rintro r w3 ⟨rfl, hw3, hb3⟩
   have W3 := Lib.hid (And.intro hw3 (HB.out.trans hb3))
   clear hw3 hb3 C
   go_wp2_with fail
   go_roundg 2
   case measure => decide
   exact ⟨by decide, rfl, by rw [show 4 - 2 = 1 + 1 from rfl, HE.out]; exact W3.out.1, fun _ => by rw [show 4 - 2 = 1 + 1 from rfl, HE.out], W3.out.2⟩
  have heb : (E == 0) = false := beq_false_of_ne he
  have heb2 : (E != 0) = true := by simpa using he
  have HN := Lib.hid he
  clear he
  go_wp2_with fail
  (with_reducible refine C.out.mono ?_)
  rintro r w3 ⟨rfl, hw3, hb3⟩
  have W3 := Lib.hid (And.intro hw3 (HB.out.trans hb3))
  clear hw3 hb3 C
  go_wp2_with fail
  go_ret
  have hall : wnAll lim s0 (stL V S P F) = (E, M) := by
   have h5 := wnAll_append lim s0 ((stL V S P F).take (1 + 1)) ((stL V S P F).drop (1 + 1))
   rw [List.take_append_drop, HE.out, wnAll_err (s := (E, M)) HN.out] at h5
   exact h5
  rw [hall]
  exact ⟨rfl, W3.out.1, W3.out.2⟩
 ·change _ = Value.int .i64 2 at hi
  obtain rfl := hi
  obtain ⟨E, M, hEM, C⟩ := step 2 (P + 1) rfl rfl (by omega) (by omega)
  have HE := Lib.hid hEM
  clear step hv hv1 hs0 hs1 hf0 hf1 hEM
  by_cases he : E = 0
  ·subst he
   go_wp2_with fail
   (with_reducible refine C.out.mono ?_)
   rintro r w3 ⟨rfl, hw3, hb3⟩
   have W3 := Lib.hid (And.intro hw3 (HB.out.trans hb3))
   clear hw3 hb3 C
   go_wp2_with fail
   go_roundg 1
   case measure => decide
   exact ⟨by decide, rfl, by rw [show 4 - 1 = 2 + 1 from rfl, HE.out]; exact W3.out.1, fun _ => by rw [show 4 - 1 = 2 + 1 from rfl, HE.out], W3.out.2⟩
  have heb : (E == 0) = false := beq_false_of_ne he
  have heb2 : (E != 0) = true := by simpa using he
  have HN := Lib.hid he
  clear he
  go_wp2_with fail
  (with_reducible refine C.out.mono ?_)
  rintro r w3 ⟨rfl, hw3, hb3⟩
  have W3 := Lib.hid (And.intro hw3 (HB.out.trans hb3))
  clear hw3 hb3 C
  go_wp2_with fail
  go_ret
  have hall : wnAll lim s0 (stL V S P F) = (E, M) := by
   have h5 := wnAll_append lim s0 ((stL V S P F).take (2 + 1)) ((stL V S P F).drop (2 + 1))
   rw [List.take_append_drop, HE.out, wnAll_err (s := (E, M)) HN.out] at h5
   exact h5
  rw [hall]
  exact ⟨rfl, W3.out.1, W3.out.2⟩
 change _ = Value.int .i64 3 at hi
 obtain rfl := hi
 obtain ⟨E, M, hEM, C⟩ := step 3 F rfl rfl (by omega) (by omega)
 have HE := Lib.hid hEM
 clear step hv hv1 hs0 hs1 hf0 hf1 hEM
 by_cases he : E = 0
 ·subst he
  go_wp2_with fail
  (with_reducible refine C.out.mono ?_)
  rintro r w3 ⟨rfl, hw3, hb3⟩
  have W3 := Lib.hid (And.intro hw3 (HB.out.trans hb3))
  clear hw3 hb3 C
  go_wp2_with fail
  go_roundg 0
  case measure => decide
  exact ⟨by decide, rfl, by rw [show 4 - 0 = 3 + 1 from rfl, HE.out]; exact W3.out.1, fun _ => by rw [show 4 - 0 = 3 + 1 from rfl, HE.out], W3.out.2⟩
 have heb : (E == 0) = false := beq_false_of_ne he
 have heb2 : (E != 0) = true := by simpa using he
 have HN := Lib.hid he
 clear he
 go_wp2_with fail
 (with_reducible refine C.out.mono ?_)
 rintro r w3 ⟨rfl, hw3, hb3⟩
 have W3 := Lib.hid (And.intro hw3 (HB.out.trans hb3))
 clear hw3 hb3 C
 go_wp2_with fail
 go_ret
 have hall : wnAll lim s0 (stL V S P F) = (E, M) := by
  have h5 := wnAll_append lim s0 ((stL V S P F).take (3 + 1)) ((stL V S P F).drop (3 + 1))
  rw [List.take_append_drop, HE.out, wnAll_err (s := (E, M)) HN.out] at h5
  exact h5
 rw [hall]
 exact ⟨rfl, W3.out.1, W3.out.2⟩
theorem tPut_any (g : Nat) (lim err : Int) (L : List Nat) (V S P F : Int) (h1 : ¬ err = 1) (w : World) (h : Wr w g lim err L) :
  Calls Tryz.prog 97 #[.pointer (some ⟨g, 0, none⟩), .agg #[.int .i64 V, .int .i64 S, .int .i64 P, .int .i64 F]] w fun r w' => r = .returned (.int .i64 (putRE lim (err, L) V S P F)) ∧ Wr w' g lim (putST lim (err, L) V S P F).1 (putST lim (err, L) V S P F).2 ∧ WF g 0 w w' := by
 unfold putRE putST
 by_cases he : chkS V S P F = 0
 ·rw [if_pos he, if_pos he]
  exact tPut_okF g lim err L V S P F (chkS_ok he) h1 w h
 rw [if_neg he, if_neg he]
 refine (tPut_badF g lim err L V S P F _ rfl he h1 w h).mono ?_
 rintro r w' ⟨h2, h3, h4⟩
 exact ⟨h2, h3, WF.ofExt h4 h.lt⟩
end
section
open Go.RowKit Go.ChangeShapes Go.WideShapes Go.Deep Go.Joins
def nuB (l : List Int) : List Nat := l.flatMap fun n => putL n.toNat
theorem nuB_len {l : List Int} (h : ∀ x ∈ l, x < 18446744073709551616) : (nuB l).length ≤ 10 * l.length := by
 induction l with
 | nil => simp [nuB]
 | cons x l ih =>
  have h1 := putL_ten (N := x.toNat) (by have := h x (List.mem_cons_self ..); omega)
  have h2 := ih (fun y hy => h y (List.mem_cons_of_mem _ hy))
  unfold nuB at h2 ⊢
  rw [List.flatMap_cons, List.length_append, List.length_cons]
  omega
theorem wnAll_fit {lim : Int} : ∀ {l : List Int} {L : List Nat}, (∀ x ∈ l, 0 ≤ x ∧ x < 18446744073709551616) → (L.length : Int) + 10 * l.length ≤ lim → wnAll lim (0, L) l = (0, L ++ nuB l)
 | [], L, _, _ => by show ((0 : Int), L) = _; simp [nuB]
 | x :: l, L, h, hf => by
  obtain ⟨h0, h1⟩ := h x (List.mem_cons_self ..)
  have h2 := putL_ten (N := x.toNat) (by omega)
  rw [List.length_cons] at hf
  obtain ⟨e1, e2⟩ := wAdd_fit (lim := lim) (L := L) (b := putL x.toNat) (by omega)
  have e : wnS lim (0, L) x = (0, L ++ putL x.toNat) := by
   unfold wnS wNE wNL
   simp only [if_pos, if_neg (show ¬ x < 0 from by omega)]
   rw [e1, e2]
  show wnAll lim (wnS lim (0, L) x) l = _
  rw [e, wnAll_fit (fun y hy => h y (List.mem_cons_of_mem _ hy)) (by rw [List.length_append]; omega)]
  unfold nuB
  rw [List.flatMap_cons, List.append_assoc]
theorem stL_in {V S P F : Int} (h : chkS V S P F = 0) : ∀ x ∈ stL V S P F, 0 ≤ x ∧ x < 18446744073709551616 := by
 have hk := chkS_ok h
 intro x hx
 have := hk.v0; have := hk.v1; have := hk.s0; have := hk.s1; have := hk.p0; have := hk.p1; have := hk.f0; have := hk.f1
 simp [stL] at hx
 omega
theorem tPut_box (g q : Nat) (lim : Int) (L : List Nat) (V S P F : Int) (hk : chkS V S P F = 0) (hf : (L.length : Int) + 40 ≤ lim) (w : World) (h : Wr w g lim 0 L) (hq : Off w g 0 q) :
  Calls Tryz.prog 97 #[.pointer (some ⟨g, 0, none⟩), .agg #[.int .i64 V, .int .i64 S, .int .i64 P, .int .i64 F]] w fun r w' => r = .returned (.int .i64 0) ∧ Wr w' g lim 0 (L ++ nuB (stL V S P F)) ∧ Off w' g 0 q ∧ But (fun k => k ≠ q ∧ g ≤ k) w w' := by
 have hc := tPut_any g lim 0 L V S P F (by decide) w h
 have e := wnAll_fit (lim := lim) (L := L) (stL_in hk) (by simp [stL]; omega)
 unfold putRE putST at hc
 rw [if_pos hk, if_pos hk, e] at hc
 refine hc.mono ?_
 rintro r w' ⟨h1, h2, h3⟩
 exact ⟨h1, h2, hq.wf h3, WF.box h hq h3⟩
end
section
open Go.RowKit
theorem AskS.new (w : World) (is : Bool) (e : Int) :
  AskS ((w.alloc (.cells #[.bool is] 4)).alloc (.cells #[.int .i64 e] 30)) (.func (.func 200) #[] #[.pointer (some ⟨w.heap.size, 0, none⟩), .pointer (some ⟨w.heap.size + 1, 0, none⟩)]) (if is = true then e else 0) :=
 ⟨_, _, is, e, rfl, by simp; omega, by simp, by simp [go_sem], by simp [go_sem], rfl⟩

end
section
open Go.RowKit Go.ChangeShapes Go.WideShapes Go.Deep Go.Joins
section
variable {H : Type} {enc : TypeId × Value → H} {P : Program} {w : World} {base : Nat} {spare : Nat → Bool} {held : Bool}
theorem rec4 {t : TypeId} {k0 k1 k2 k3 : IntKind} {f0 f1 f2 f3 : Field} {cs : List Value} {m : Nat} {y : DataW H × List MemPlace} (ht : P.underlying t = some (.struct #[f0, f1, f2, f3])) (hone : oneCellFields P #[f0, f1, f2, f3] = true)
  (h0 : P.underlying f0.type = some (.int k0)) (h1 : P.underlying f1.type = some (.int k1)) (h2 : P.underlying f2.type = some (.int k2)) (h3 : P.underlying f3.type = some (.int k3))
  (h : DataW.trod enc P w base spare held m t cs = some y) (hl : cs.length = 4) : ∃ x : Int × Int × Int × Int, cs = [.int k0 x.1, .int k1 x.2.1, .int k2 x.2.2.1, .int k3 x.2.2.2] ∧ Fits k0 x.1 ∧ Fits k1 x.2.1 ∧ Fits k2 x.2.2.1 ∧ Fits k3 x.2.2.2 := by
 obtain ⟨y0, y1, y2, y3, m', _, _, g0, g1, g2, g3⟩ := trod_struct4 ht h
 obtain ⟨o0, c0⟩ := hone_of hone 0 f0 rfl
 obtain ⟨o1, c1⟩ := hone_of hone 1 f1 rfl
 obtain ⟨o2, c2⟩ := hone_of hone 2 f2 rfl
 obtain ⟨o3, c3⟩ := hone_of hone 3 f3 rfl
 match cs, hl with
 | [v0, v1, v2, v3], _ =>
  rw [o0, c0] at g0
  rw [o1, c1] at g1
  rw [o2, c2] at g2
  rw [o3, c3] at g3
  obtain ⟨a, ha, _, wa⟩ := DataW.trod_int h0 g0
  obtain ⟨b, hb, _, wb⟩ := DataW.trod_int h1 g1
  obtain ⟨c, hc, _, wc⟩ := DataW.trod_int h2 g2
  obtain ⟨d, hd, _, wd⟩ := DataW.trod_int h3 g3
  simp at ha hb hc hd
  subst ha; subst hb; subst hc; subst hd
  exact ⟨(a, b, c, d), rfl, wa, wb, wc, wd⟩
end
end
section
open Go.RowKit Go.ChangeShapes Go.WideShapes Go.Deep Go.Joins
def clN (x : I6) : List Int := [x.1, x.2.1, x.2.2.1 + 1, x.2.2.2.1, x.2.2.2.2.1, x.2.2.2.2.2]
def poN (x : I6) : List Int := [x.1, x.2.1, x.2.2.1, x.2.2.2.1 + 1, x.2.2.2.2.1, x.2.2.2.2.2]
def clB (x : I6) : List Nat := nuB (clN x)
def poB (x : I6) : List Nat := nuB (poN x)
def hldB (cl ps : List I6) : List Nat := if chkH cl ps = 0 then putL cl.length ++ cl.flatMap clB ++ (putL ps.length ++ ps.flatMap poB) else []
theorem nuF_take {α : Type} {f : α → List Nat} {l : List α} {k : Nat} {x : α} (h : l[k]? = some x) : (l.take (k + 1)).flatMap f = (l.take k).flatMap f ++ f x := by
 obtain ⟨hk, e⟩ := List.getElem?_eq_some_iff.1 h
 rw [List.take_succ_eq_append_getElem hk, List.flatMap_append, e]
 simp
theorem nuF_len {α : Type} {f : α → List Int} {l : List α} (h : ∀ x ∈ l, (f x).length = 6 ∧ ∀ y ∈ f x, y < 18446744073709551616) : (l.flatMap fun x => nuB (f x)).length ≤ 60 * l.length := by
 induction l with
 | nil => simp
 | cons x l ih =>
  obtain ⟨h1, h2⟩ := h x (List.mem_cons_self ..)
  have h3 := nuB_len h2
  have h4 := ih (fun y hy => h y (List.mem_cons_of_mem _ hy))
  rw [List.flatMap_cons, List.length_append, List.length_cons]
  omega
theorem clN_fit {x : I6} (h : GoodC x) (hw : WdC x) : (clN x).length = 6 ∧ ∀ y ∈ clN x, y < 18446744073709551616 := by
 refine ⟨rfl, fun y hy => ?_⟩
 have hs := stL_in h.1
 obtain ⟨w1, w2⟩ := hw
 unfold toC shC Word at *
 simp only [clN, List.mem_cons, List.not_mem_nil, or_false] at hy
 simp only [stL, List.mem_cons, List.not_mem_nil, or_false] at hs
 rcases hy with hy | hy | hy | hy | hy | hy
 ·exact (hs y (.inl hy)).2
 ·exact (hs y (.inr (.inl hy))).2
 ·exact (hs y (.inr (.inr (.inl hy)))).2
 ·exact (hs y (.inr (.inr (.inr hy)))).2
 ·rw [hy]; exact w1.2
 rw [hy]; exact w2.2
theorem poN_fit {x : I6} (h : chkS x.2.1 x.2.2.1 x.2.2.2.1 x.2.2.2.2.1 = 0) (ho : x.1 < 64) (hw : WdP x) : (poN x).length = 6 ∧ ∀ y ∈ poN x, y < 18446744073709551616 := by
 refine ⟨rfl, fun y hy => ?_⟩
 have hs := stL_in h
 have w2 : Word x.2.2.2.2.2 := hw
 unfold Word at w2
 simp only [poN, List.mem_cons, List.not_mem_nil, or_false] at hy
 simp only [stL, List.mem_cons, List.not_mem_nil, or_false] at hs
 rcases hy with hy | hy | hy | hy | hy | hy
 ·omega
 ·exact (hs y (.inl hy)).2
 ·exact (hs y (.inr (.inl hy))).2
 ·exact (hs y (.inr (.inr (.inl hy)))).2
 ·exact (hs y (.inr (.inr (.inr hy)))).2
 rw [hy]; exact w2.2
theorem HOk.posS {cl ps : List I6} (h : HOk cl ps) {x : I6} (hx : x ∈ ps) : chkS x.2.1 x.2.2.1 x.2.2.2.1 x.2.2.2.2.1 = 0 := by
 obtain ⟨y, hy⟩ := Option.isSome_iff_exists.1 (h.pos x hx).2.2
 obtain ⟨ym, yk⟩ := getK_mem hy
 have hs := (h.cls y ym).1
 unfold kC stP at yk
 simp only [List.cons.injEq, and_true] at yk
 rw [yk.1, yk.2.1, yk.2.2.1, yk.2.2.2] at hs
 exact hs
theorem hld_fit {cl ps : List I6} (h : HOk cl ps) (hw : ∀ x ∈ cl, WdC x) (hw2 : ∀ x ∈ ps, WdP x) (h1 : cl.length ≤ 1024) (h2 : ps.length ≤ 1024) (j k : Nat) : (putL cl.length ++ (cl.take j).flatMap clB).length ≤ 61450 ∧ (putL cl.length ++ cl.flatMap clB ++ (putL ps.length ++ (ps.take k).flatMap poB)).length ≤ 122900 := by
 have a1 := nuF_len (l := cl.take j) (f := clN) (fun x hx => clN_fit (h.cls x (List.mem_of_mem_take hx)) (hw x (List.mem_of_mem_take hx)))
 have a2 := nuF_len (l := cl) (f := clN) (fun x hx => clN_fit (h.cls x hx) (hw x hx))
 have a3 := nuF_len (l := ps.take k) (f := poN) (fun x hx => poN_fit (h.posS (List.mem_of_mem_take hx)) (h.pos x (List.mem_of_mem_take hx)).1.2 (hw2 x (List.mem_of_mem_take hx)))
 have b1 : (cl.take j).length ≤ cl.length := by rw [List.length_take]; omega
 have b2 : (ps.take k).length ≤ ps.length := by rw [List.length_take]; omega
 have c1 := putL_ten (N := cl.length) (by omega)
 have c2 := putL_ten (N := ps.length) (by omega)
 unfold clB poB
 simp only [List.length_append]
 constructor <;> omega
theorem hBytes_chk (n c n2 c2 : Nat) (A A2 : Option Addr) (cl ps : List I6) (w : World) (h : Sl w 6 A n c (cl.flatMap clsC)) (h2 : Sl w 6 A2 n2 c2 (ps.flatMap posC)) (hn : n = cl.length) (hn2 : n2 = ps.length) (hm : n ≤ 1024) (hm2 : n2 ≤ 1024) (hw : ∀ x ∈ cl, WdC x) (hw2 : ∀ x ∈ ps, WdP x) (f : Int) (hf : chkH cl ps = f) (hc : ¬ f = 0) :
  Calls Tryz.prog 56 #[.agg #[.slice A n c, .slice A2 n2 c2]] w (ByErr (hldB cl ps) f w) := by
 have e7 : (f != 0) = true := by simpa using hc
 have hB : hldB cl ps = [] := by unfold hldB; rw [hf]; exact if_neg hc
 rw [hB]
 have HF := Lib.hid hf
 have HS := Lib.hid h.low
 have HT := Lib.hid h2.low
 have HW := Lib.hid hw
 have HW2 := Lib.hid hw2
 clear h h2 hn hn2 hw hw2 hf hB
 go_enter Tryz.func56, Tryz.ntmps56
 go_wp2_with fail
 (with_reducible refine ((show Calls Tryz.prog 14 #[.agg #[.slice A n c, .slice A2 n2 c2]] _ fun r w' => r = .returned (.int .i64 f) ∧ Ext _ w' from HF.out ▸ hCheck_any n c n2 c2 A A2 cl ps _ (HS.out.ext zxt).sl (HT.out.ext zxt).sl (by omega) (by omega) HW.out HW2.out)).mono ?_)
 rintro e w1 ⟨rfl, hx1⟩
 have z1 := hx1.size
 try simp at z1
 replace HS := Lib.hid (HS.out.ext (Ext.trans zxt hx1))
 replace HT := Lib.hid (HT.out.ext (Ext.trans zxt hx1))
 have X1 : Hid (Ext w w1) := Lib.hid (Ext.trans zxt hx1)
 clear hx1
 go_wp2_with fail
 refine bodyPost_ret (v := .tuple #[.slice none 0 0, .int .i64 f]) (by simp [results, Tryz.results56, go_sem, World.cell?_alloc_past]; try rfl) rfl ⟨_, rfl, World.ownsRow_nil _ _ _ _, ?_⟩
 exact zxt
theorem hBytes_ok (n c n2 c2 : Nat) (A A2 : Option Addr) (cl ps : List I6) (w : World) (h : Sl w 6 A n c (cl.flatMap clsC)) (h2 : Sl w 6 A2 n2 c2 (ps.flatMap posC)) (hn : n = cl.length) (hn2 : n2 = ps.length) (hm : n ≤ 1024) (hm2 : n2 ≤ 1024) (hw : ∀ x ∈ cl, WdC x) (hw2 : ∀ x ∈ ps, WdP x) (hk : HOk cl ps) :
  Calls Tryz.prog 56 #[.agg #[.slice A n c, .slice A2 n2 c2]] w (ByErr (hldB cl ps) 0 w) := by
 have hf : chkH cl ps = 0 := (chkH_iff cl ps).2 hk
 have hB : hldB cl ps = putL cl.length ++ cl.flatMap clB ++ (putL ps.length ++ ps.flatMap poB) := by unfold hldB; exact if_pos hf
 rw [hB, ← hn, ← hn2]
 have HF := Lib.hid hf
 have HKK := Lib.hid hk
 have HFIT := Lib.hid (fun j k => hld_fit hk hw hw2 (by omega) (by omega) j k)
 rw [← hn, ← hn2] at HFIT
 obtain ⟨M1, hM1⟩ : ∃ M, M = putL n ++ cl.flatMap clB := ⟨_, rfl⟩
 have hmd : ¬ (65536 : Int) < (n2 : Int) := by omega
 have HM1 := Lib.hid hM1
 have HNN := Lib.hid (And.intro hn hn2)
 have HS := Lib.hid h.low
 have HT := Lib.hid h2.low
 have HW := Lib.hid hw
 have HW2 := Lib.hid hw2
 rw [← hM1] at HFIT ⊢
 clear h h2 hn hn2 hw hw2 hf hB hM1 hk
 go_enter Tryz.func56, Tryz.ntmps56
 go_wp2_with fail
 (with_reducible refine ((show Calls Tryz.prog 14 #[.agg #[.slice A n c, .slice A2 n2 c2]] _ fun r w' => r = .returned (.int .i64 0) ∧ Ext _ w' from HF.out ▸ hCheck_any n c n2 c2 A A2 cl ps _ (HS.out.ext zxt).sl (HT.out.ext zxt).sl (by omega) (by omega) HW.out HW2.out)).mono ?_)
 rintro e w1 ⟨rfl, hx1⟩
 have c0_0 : w1.cell? ⟨w.heap.size, 0, none⟩ = some (.slice A n c) := hx1.has zcv
 have c0_1 : w1.cell? ⟨w.heap.size, 1, none⟩ = some (.slice A2 n2 c2) := hx1.has zcv
 have z1 := hx1.size
 try simp at z1
 have rc0 := zr w.heap.size w1
 replace HS := Lib.hid (HS.out.ext (Ext.trans zxt hx1))
 replace HT := Lib.hid (HT.out.ext (Ext.trans zxt hx1))
 have X1 : Hid (Ext w w1) := Lib.hid (Ext.trans zxt hx1)
 clear hx1
 go_wp2_with fail
 have hx0 : w.heap.size < w1.heap.size := by have := Ext.size X1.out; omega
 (with_reducible refine (cNewWriter_ex 1048576 (by decide) (by decide) _).mono ?_)
 rintro e w2 ⟨g, rfl, hg, hW, hx2⟩
 replace c0_0 := zh hx2 c0_0
 replace c0_1 := zh hx2 c0_1
 have z2 := hx2.size
 try simp at z2
 replace rc0 := zr w.heap.size w2
 replace HS := Lib.hid (HS.out.ext (Ext.trans zxt hx2))
 replace HT := Lib.hid (HT.out.ext (Ext.trans zxt hx2))
 have X2 : Hid (Ext w w2) := Lib.hid (Ext.trans zxt hx2)
 have HWr := Lib.hid hW
 clear X1 hx2 hW
 have hgw : w.heap.size < g := by have := hx0; (try simp at hg); omega
 clear hg hx0
 go_wp2_with fail
 (with_reducible refine (cWN_fit g 1048576 [] (n : Int) (by omega) (by omega) (by simp) _ (HWr.out.ext zxt)).mono ?_)
 rintro e w3 ⟨rfl, hW, hx3⟩
 have hsz3 := hx3.size
 try simp at hsz3
 replace c0_0 := zhb hx3 c0_0 (ne := (by show ¬ g ≤ _; omega))
 replace c0_1 := zhb hx3 c0_1 (ne := (by show ¬ g ≤ _; omega))
 have z3 := hx3.size
 try simp at z3
 replace rc0 := zr w.heap.size w3
 have X3 : Hid (Ext w w3) := Lib.hid (have hX := (show Ext w _ from zxt); Below.trans hX (hx3.below (Ext.size hX) (fun k hk hh => by have h2 : g ≤ k := hh; omega)))
 replace HS := Lib.hid ((HS.out.ext zxt).but hx3 (fun k hk => by have h2 : g ≤ k := hk; omega))
 replace HT := Lib.hid ((HT.out.ext zxt).but hx3 (fun k hk => by have h2 : g ≤ k := hk; omega))
 clear HWr
 have HWr := Lib.hid (show Wr _ g 1048576 0 (putL n) from by simpa using hW)
 clear hsz3 X2 hx3
 have HW0 : Hid (Wr _ g 1048576 0 (putL n ++ (cl.take 0).flatMap clB)) := Lib.hid (by simpa using (HWr.out.ext zxt))
 go_wp2_with fail
 go_loopg [35] n (fun gh i wx => gh ≤ n ∧ i = .int .i64 ((n - gh : Nat) : Int) ∧ Hid (Wr wx g 1048576 0 (putL n ++ (cl.take (n - gh)).flatMap clB)) ∧ Hid (SlB w.heap.size wx 6 A n c (cl.flatMap clsC)) ∧ Hid (SlB w.heap.size wx 6 A2 n2 c2 (ps.flatMap posC)) ∧ Hid (wx.cell? ⟨w.heap.size, 0, none⟩ = some (.slice A n c) ∧ wx.cell? ⟨w.heap.size, 1, none⟩ = some (.slice A2 n2 c2)) ∧ Ext w wx)
 case atStart => exact ⟨Nat.le_refl _, by simp, by rw [Nat.sub_self]; exact HW0, Lib.hid (HS.out.ext zxt), Lib.hid (HT.out.ext zxt), Lib.hid ⟨zcv, zcv⟩, zxt⟩
 obtain ⟨hg, hi, hw, hs, hs2, hcc, hx⟩ := hrel
 obtain ⟨a_0, a_1⟩ := hcc.out
 obtain ⟨k, hk⟩ : ∃ k, k = n - gk := ⟨_, rfl⟩
 rw [← hk] at hi hw
 subst hi
 have XR := Lib.hid hx
 have HWk := hw
 have HSk := hs
 have HTk := hs2
 have hla := cell_lt a_0
 by_cases hz : gk = 0
 ·have hkn : ¬ (k : Int) < (n : Int) := by omega
  have hkl : k = n := by omega
  have HWE : Hid (Wr wr g 1048576 0 M1) := Lib.hid (by have h := hw.out; rw [hkl, show n = cl.length from HNN.out.1, List.take_length, ← HNN.out.1, ← HM1.out] at h; exact h)
  clear hx hk hg hz hw hs hs2 hkl HWk HSk hcc
  go_wp2_with fail
  (with_reducible refine (cWN_fit g 1048576 M1 (n2 : Int) (by omega) (by omega) (by have h := (HFIT.out 0 0).2; simp only [List.length_append] at h; omega) _ (HWE.out.ext zxt)).mono ?_)
  rintro e w41 ⟨rfl, hW, hx41⟩
  have hsz41 := hx41.size
  try simp at hsz41
  replace a_0 := zhb hx41 a_0 (ne := (by show ¬ g ≤ _; omega))
  replace a_1 := zhb hx41 a_1 (ne := (by show ¬ g ≤ _; omega))
  have z41 := hx41.size
  try simp at z41
  have ra := zr w.heap.size w41
  have X41 : Hid (Ext w w41) := Lib.hid (have hX := (show Ext w _ from zxt); Below.trans hX (hx41.below (Ext.size hX) (fun k hk hh => by have h2 : g ≤ k := hh; omega)))
  replace HTk := Lib.hid ((HTk.out.ext zxt).but hx41 (fun k hk => by have h2 : g ≤ k := hk; omega))
  clear HWE
  have HWE := Lib.hid (show Wr _ g 1048576 0 (M1 ++ putL n2) from by simpa using hW)
  clear hsz41 XR hx41
  have HW0 : Hid (Wr _ g 1048576 0 (M1 ++ (putL n2 ++ (ps.take 0).flatMap poB))) := Lib.hid (by simpa using (HWE.out.ext zxt))
  go_wp2_with fail
  go_loopg [62] n2 (fun gh i wx => gh ≤ n2 ∧ i = .int .i64 ((n2 - gh : Nat) : Int) ∧ Hid (Wr wx g 1048576 0 (M1 ++ (putL n2 ++ (ps.take (n2 - gh)).flatMap poB))) ∧ Hid (SlB w.heap.size wx 6 A2 n2 c2 (ps.flatMap posC)) ∧ Hid (wx.cell? ⟨w.heap.size, 0, none⟩ = some (.slice A n c) ∧ wx.cell? ⟨w.heap.size, 1, none⟩ = some (.slice A2 n2 c2)) ∧ Ext w wx)
  case atStart => exact ⟨Nat.le_refl _, by simp, by rw [Nat.sub_self]; exact HW0, Lib.hid (HTk.out.ext zxt), Lib.hid ⟨zcv, zcv⟩, zxt⟩
  obtain ⟨hg2, hi2, hw2_, hs2_, hcc2, hx2⟩ := hrel
  obtain ⟨wo, hwo⟩ : ∃ x, x = wr := ⟨_, rfl⟩
  subst hwo
  obtain ⟨b_0, b_1⟩ := hcc2.out
  obtain ⟨j, hj⟩ : ∃ k, k = n2 - gk := ⟨_, rfl⟩
  rw [← hj] at hi2 hw2_
  subst hi2
  have XS := Lib.hid hx2
  have HWj := hw2_
  have HTj := hs2_
  have hlb := cell_lt b_0
  by_cases hz2 : gk = 0
  ·have hjn : ¬ (j : Int) < (n2 : Int) := by omega
   have hjl : j = n2 := by omega
   have HWF : Hid (Wr wo g 1048576 0 (M1 ++ (putL n2 ++ ps.flatMap poB))) := Lib.hid (by have h := hw2_.out; rw [hjl, show n2 = ps.length from HNN.out.2, List.take_length, ← HNN.out.2] at h; exact h)
   clear hx2 hj hg2 hz2 hw2_ hs2_ hjl HWj HTj hcc2
   go_wp2_with fail
   have hrm := Ext.size XS.out
   (with_reducible refine ((show _ from cDone_ok g 1048576 _ _ (HWF.out.ext zxt))).mono ?_)
   rintro e w61 ⟨v, rfl, hV, hx61⟩
   have z61 := hx61.size
   try simp at z61
   replace HWF := Lib.hid (HWF.out.ext (Ext.trans zxt hx61))
   have X61 : Hid (Ext w w61) := Lib.hid (Ext.trans zxt hx61)
   have HV := Lib.hid hV
   clear b_0 b_1 XS hx61 hV
   go_wp2_with fail
   refine bodyPost_ret (v := .tuple #[v, .int .i64 0]) (by simp [results, Tryz.results56]; try rfl) rfl ⟨v, rfl, own_lower HV.out ?_, zxt⟩
   have h := hrm
   (try simp at h)
   omega
  have hkn : (j : Int) < (n2 : Int) := by omega
  have hk1 : j < ps.length := by have := HNN.out; omega
  obtain ⟨b1, o1, rfl, hb1, hc1⟩ := hs2_.out.sl.rec_ posC_len (show 0 < n2 from by omega)
  have hb1w := hs2_.out.2 (by omega) b1 o1 none rfl
  have x_0 := hc1 j _ (List.getElem?_eq_getElem hk1) 0 _ rfl
  have x_1 := hc1 j _ (List.getElem?_eq_getElem hk1) 1 _ rfl
  have x_2 := hc1 j _ (List.getElem?_eq_getElem hk1) 2 _ rfl
  have x_3 := hc1 j _ (List.getElem?_eq_getElem hk1) 3 _ rfl
  have x_4 := hc1 j _ (List.getElem?_eq_getElem hk1) 4 _ rfl
  have x_5 := hc1 j _ (List.getElem?_eq_getElem hk1) 5 _ rfl
  obtain ⟨x, hxx⟩ : ∃ x, x = ps[j] := ⟨_, rfl⟩
  have hlk : ps[j]? = some x := by rw [hxx]; exact List.getElem?_eq_getElem hk1
  rw [← hxx] at x_0 x_1 x_2 x_3 x_4 x_5
  have hr3 := HKK.out.posS (List.mem_of_getElem? hlk)
  have hro := (HKK.out.pos x (List.mem_of_getElem? hlk)).1
  have hu := HW2.out x (List.mem_of_getElem? hlk)
  have hM := (HFIT.out 0 j).2
  have ht := nuF_take (f := poB) hlk
  obtain ⟨M0, hM0⟩ : ∃ M0, M0 = M1 ++ (putL n2 ++ (ps.take j).flatMap poB) := ⟨_, rfl⟩
  rw [← hM0] at hM HWj
  have hnext : M1 ++ (putL n2 ++ (ps.take (j + 1)).flatMap poB) = M0 ++ poB x := by rw [ht, hM0]; simp only [List.append_assoc]
  obtain ⟨po, pv, ps_, pp, pf, ph⟩ := x
  have u1 : Word ph := hu
  have u2 := hro
  change 0 ≤ ph ∧ ph < 18446744073709551616 at u1
  change 0 ≤ po ∧ po < 64 at u2
  change chkS pv ps_ pp pf = 0 at hr3
  simp only at x_0 x_1 x_2 x_3 x_4 x_5
  rw [Nat.add_zero] at x_0
  rw [← Nat.add_assoc] at x_1 x_2 x_3 x_4 x_5
  have c1' := nuB_len (l := stL pv ps_ pp pf) (fun y hy => (stL_in hr3 y hy).2)
  have c2' := putL_ten (N := po.toNat) (by omega)
  have c3' := putL_ten (N := ph.toNat) (by omega)
  have c5' : (stL pv ps_ pp pf).length = 4 := rfl
  have HQ0 := Lib.hid (And.intro u1 (And.intro u2 (And.intro hM (And.intro c1' (And.intro c2' (And.intro c3' c5'))))))
  have HR3 := Lib.hid hr3
  have HNX := Lib.hid hnext
  have HK := Lib.hid (And.intro hj (And.intro hg2 hz2))
  clear hx2 hj hg2 hz2 hc1 hxx hlk hu hM ht hnext c1' c2' c3' c5' hw2_ hs2_ hM0 hr3 u1 u2 hro hcc2
  go_wp2_with fail
  (with_reducible refine (cWN_box g wo.heap.size 1048576 M0 po (by have := HQ0.out; omega) (by have := HQ0.out; omega) zSlTbk1_7 _ (HWj.out.ext zxt) (Off.new HWj.out (Nat.le_refl _) zxt (by simp))).mono ?_)
  rintro e w81 ⟨rfl, hW, hQ, hx81⟩
  have hsz81 := hx81.size
  try simp at hsz81
  replace b_0 := zhb hx81 b_0 (ne := zSlTbk1_0)
  replace b_1 := zhb hx81 b_1 (ne := zSlTbk1_0)
  have c0_1 : w81.cell? ⟨wo.heap.size, 1, none⟩ = some (.int .i64 pv) := hx81.has zSlTbk1_0 zcv
  have c0_2 : w81.cell? ⟨wo.heap.size, 2, none⟩ = some (.int .i64 ps_) := hx81.has zSlTbk1_0 zcv
  have c0_3 : w81.cell? ⟨wo.heap.size, 3, none⟩ = some (.int .i64 pp) := hx81.has zSlTbk1_0 zcv
  have c0_4 : w81.cell? ⟨wo.heap.size, 4, none⟩ = some (.int .i64 pf) := hx81.has zSlTbk1_0 zcv
  have c0_5 : w81.cell? ⟨wo.heap.size, 5, none⟩ = some (.int .u64 ph) := hx81.has zSlTbk1_0 zcv
  have z81 := hx81.size
  try simp at z81
  have lt_b_c0 := zl w.heap.size wo.heap.size
  have rb := zr w.heap.size w81
  have rc0 := zr wo.heap.size w81
  have X81 : Hid (Ext w w81) := Lib.hid (have hX := (show Ext w _ from zxt); Below.trans hX (hx81.below (Ext.size hX) (fun k hk hh => by have h2 : g ≤ k := hh.2; omega)))
  replace HTj := Lib.hid ((HTj.out.ext zxt).but hx81 (fun k hk => by have h2 : g ≤ k := hk.2; omega))
  clear HWj
  have HWj := Lib.hid hW
  have HQ := Lib.hid hQ
  clear x_1 x_2 x_3 x_4 x_0 x_5 hsz81 XS hx81 hW hQ
  go_wp2_with fail
  (with_reducible refine (tPut_box g wo.heap.size 1048576 (M0 ++ putL po.toNat) pv ps_ pp pf HR3.out zSlTbk1_7 _ (HWj.out.ext zxt) (HQ.out.ext zxt)).mono ?_)
  rintro e w82 ⟨rfl, hW, hQ, hx82⟩
  have hsz82 := hx82.size
  try simp at hsz82
  replace b_0 := zhb hx82 b_0 (ne := zSlTbk1_0)
  replace b_1 := zhb hx82 b_1 (ne := zSlTbk1_0)
  replace c0_5 := zhb hx82 c0_5 (ne := zSlTbk1_0)
  have z82 := hx82.size
  try simp at z82
  replace rb := zr w.heap.size w82
  replace rc0 := zr wo.heap.size w82
  have X82 : Hid (Ext w w82) := Lib.hid (have hX := (show Ext w _ from zxt); Below.trans hX (hx82.below (Ext.size hX) (fun k hk hh => by have h2 : g ≤ k := hh.2; omega)))
  replace HTj := Lib.hid ((HTj.out.ext zxt).but hx82 (fun k hk => by have h2 : g ≤ k := hk.2; omega))
  clear HWj HQ
  have HWj := Lib.hid hW
  have HQ := Lib.hid hQ
  clear c0_3 c0_4 c0_2 c0_1 hsz82 X81 hx82 hW hQ
  go_wp2_with fail
  (with_reducible refine (cWU_box g wo.heap.size 1048576 ((M0 ++ putL po.toNat) ++ nuB (stL pv ps_ pp pf)) ph (by have := HQ0.out; omega) (by have := HQ0.out; omega) zSlTbk1_7 _ (HWj.out.ext zxt) (HQ.out.ext zxt)).mono ?_)
  rintro e w83 ⟨rfl, hW, hQ, hx83⟩
  have hsz83 := hx83.size
  try simp at hsz83
  replace b_0 := zhb hx83 b_0 (ne := zSlTbk1_0)
  replace b_1 := zhb hx83 b_1 (ne := zSlTbk1_0)
  have z83 := hx83.size
  try simp at z83
  replace rb := zr w.heap.size w83
  have X83 : Hid (Ext w w83) := Lib.hid (have hX := (show Ext w _ from zxt); Below.trans hX (hx83.below (Ext.size hX) (fun k hk hh => by have h2 : g ≤ k := hh.2; omega)))
  replace HTj := Lib.hid ((HTj.out.ext zxt).but hx83 (fun k hk => by have h2 : g ≤ k := hk.2; omega))
  clear HWj HQ
  have HWj := Lib.hid hW
  have HQ := Lib.hid hQ
  clear c0_5 rc0 hsz83 X82 hx83 hW hQ
  go_wp2_with fail
  go_roundg (gk - 1)
  case measure => have := HK.out; omega
  refine ⟨by have := HK.out; omega, num_eq (by have := HK.out; omega), Lib.hid ?_, Lib.hid (HTj.out.ext zxt), Lib.hid ⟨zcv, zcv⟩, zxt⟩
  rw [show n2 - (gk - 1) = j + 1 from by have := HK.out; omega, HNX.out]
  have h := (HWj.out.ext zxt)
  simpa [poB, poN, nuB, stL, List.append_assoc] using h
 have hkn : (k : Int) < (n : Int) := by omega
 have hk1 : k < cl.length := by have := HNN.out; omega
 obtain ⟨b1, o1, rfl, hb1, hc1⟩ := hs.out.sl.rec_ clsC_len (show 0 < n from by omega)
 have hb1w := hs.out.2 (by omega) b1 o1 none rfl
 have x_0 := hc1 k _ (List.getElem?_eq_getElem hk1) 0 _ rfl
 have x_1 := hc1 k _ (List.getElem?_eq_getElem hk1) 1 _ rfl
 have x_2 := hc1 k _ (List.getElem?_eq_getElem hk1) 2 _ rfl
 have x_3 := hc1 k _ (List.getElem?_eq_getElem hk1) 3 _ rfl
 have x_4 := hc1 k _ (List.getElem?_eq_getElem hk1) 4 _ rfl
 have x_5 := hc1 k _ (List.getElem?_eq_getElem hk1) 5 _ rfl
 obtain ⟨x, hxx⟩ : ∃ x, x = cl[k] := ⟨_, rfl⟩
 have hlk : cl[k]? = some x := by rw [hxx]; exact List.getElem?_eq_getElem hk1
 rw [← hxx] at x_0 x_1 x_2 x_3 x_4 x_5
 have hr3 := (HKK.out.cls x (List.mem_of_getElem? hlk)).1
 have hu := HW.out x (List.mem_of_getElem? hlk)
 have hM := (HFIT.out k 0).1
 have ht := nuF_take (f := clB) hlk
 obtain ⟨M0, hM0⟩ : ∃ M0, M0 = putL n ++ (cl.take k).flatMap clB := ⟨_, rfl⟩
 rw [← hM0] at hM HWk
 have hnext : putL n ++ (cl.take (k + 1)).flatMap clB = M0 ++ clB x := by rw [ht, hM0]; simp only [List.append_assoc]
 obtain ⟨xv, xs, xp, xf, xt, xh⟩ := x
 have u1 := hu.1
 have u2 := hu.2
 change 0 ≤ xt ∧ xt < 18446744073709551616 at u1
 change 0 ≤ xh ∧ xh < 18446744073709551616 at u2
 change chkS xv xs xp xf = 0 at hr3
 simp only at x_0 x_1 x_2 x_3 x_4 x_5
 rw [Nat.add_zero] at x_0
 rw [← Nat.add_assoc] at x_1 x_2 x_3 x_4 x_5
 have c1' := nuB_len (l := stL xv xs xp xf) (fun y hy => (stL_in hr3 y hy).2)
 have c2' := putL_ten (N := xt.toNat) (by omega)
 have c3' := putL_ten (N := xh.toNat) (by omega)
 have c5' : (stL xv xs xp xf).length = 4 := rfl
 have HQ0 := Lib.hid (And.intro u1 (And.intro u2 (And.intro hM (And.intro c1' (And.intro c2' (And.intro c3' c5'))))))
 have HR3 := Lib.hid hr3
 have HNX := Lib.hid hnext
 have HK := Lib.hid (And.intro hk (And.intro hg hz))
 clear hx hk hg hz hc1 hxx hlk hu hM ht hnext c1' c2' c3' c5' hw hs hs2 hM0 hr3 u1 u2 hcc
 go_wp2_with fail
 (with_reducible refine (tPut_box g wr.heap.size 1048576 M0 xv xs xp xf HR3.out zSlTbk1_7 _ (HWk.out.ext zxt) (Off.new HWk.out (Nat.le_refl _) zxt (by simp))).mono ?_)
 rintro e w51 ⟨rfl, hW, hQ, hx51⟩
 have hsz51 := hx51.size
 try simp at hsz51
 replace a_0 := zhb hx51 a_0 (ne := zSlTbk1_0)
 replace a_1 := zhb hx51 a_1 (ne := zSlTbk1_0)
 have c0_4 : w51.cell? ⟨wr.heap.size, 4, none⟩ = some (.int .u64 xt) := hx51.has zSlTbk1_0 zcv
 have c0_5 : w51.cell? ⟨wr.heap.size, 5, none⟩ = some (.int .u64 xh) := hx51.has zSlTbk1_0 zcv
 have z51 := hx51.size
 try simp at z51
 have lt_a_c0 := zl w.heap.size wr.heap.size
 have ra := zr w.heap.size w51
 have rc0 := zr wr.heap.size w51
 have X51 : Hid (Ext w w51) := Lib.hid (have hX := (show Ext w _ from zxt); Below.trans hX (hx51.below (Ext.size hX) (fun k hk hh => by have h2 : g ≤ k := hh.2; omega)))
 replace HSk := Lib.hid ((HSk.out.ext zxt).but hx51 (fun k hk => by have h2 : g ≤ k := hk.2; omega))
 replace HTk := Lib.hid ((HTk.out.ext zxt).but hx51 (fun k hk => by have h2 : g ≤ k := hk.2; omega))
 clear HWk
 have HWk := Lib.hid hW
 have HQ := Lib.hid hQ
 clear x_1 x_2 x_3 x_4 x_0 x_5 hsz51 XR hx51 hW hQ
 go_wp2_with fail
 (with_reducible refine (cWU_box g wr.heap.size 1048576 (M0 ++ nuB (stL xv xs xp xf)) xt (by have := HQ0.out; omega) (by have := HQ0.out; omega) zSlTbk1_7 _ (HWk.out.ext zxt) (HQ.out.ext zxt)).mono ?_)
 rintro e w52 ⟨rfl, hW, hQ, hx52⟩
 have hsz52 := hx52.size
 try simp at hsz52
 replace a_0 := zhb hx52 a_0 (ne := zSlTbk1_0)
 replace a_1 := zhb hx52 a_1 (ne := zSlTbk1_0)
 replace c0_5 := zhb hx52 c0_5 (ne := zSlTbk1_0)
 have z52 := hx52.size
 try simp at z52
 replace ra := zr w.heap.size w52
 replace rc0 := zr wr.heap.size w52
 have X52 : Hid (Ext w w52) := Lib.hid (have hX := (show Ext w _ from zxt); Below.trans hX (hx52.below (Ext.size hX) (fun k hk hh => by have h2 : g ≤ k := hh.2; omega)))
 replace HSk := Lib.hid ((HSk.out.ext zxt).but hx52 (fun k hk => by have h2 : g ≤ k := hk.2; omega))
 replace HTk := Lib.hid ((HTk.out.ext zxt).but hx52 (fun k hk => by have h2 : g ≤ k := hk.2; omega))
 clear HWk HQ
 have HWk := Lib.hid hW
 have HQ := Lib.hid hQ
 clear c0_4 hsz52 X51 hx52 hW hQ
 go_wp2_with fail
 (with_reducible refine (cWU_box g wr.heap.size 1048576 ((M0 ++ nuB (stL xv xs xp xf)) ++ putL xt.toNat) xh (by have := HQ0.out; omega) (by have := HQ0.out; omega) zSlTbk1_7 _ (HWk.out.ext zxt) (HQ.out.ext zxt)).mono ?_)
 rintro e w53 ⟨rfl, hW, hQ, hx53⟩
 have hsz53 := hx53.size
 try simp at hsz53
 replace a_0 := zhb hx53 a_0 (ne := zSlTbk1_0)
 replace a_1 := zhb hx53 a_1 (ne := zSlTbk1_0)
 have z53 := hx53.size
 try simp at z53
 replace ra := zr w.heap.size w53
 have X53 : Hid (Ext w w53) := Lib.hid (have hX := (show Ext w _ from zxt); Below.trans hX (hx53.below (Ext.size hX) (fun k hk hh => by have h2 : g ≤ k := hh.2; omega)))
 replace HSk := Lib.hid ((HSk.out.ext zxt).but hx53 (fun k hk => by have h2 : g ≤ k := hk.2; omega))
 replace HTk := Lib.hid ((HTk.out.ext zxt).but hx53 (fun k hk => by have h2 : g ≤ k := hk.2; omega))
 clear HWk HQ
 have HWk := Lib.hid hW
 have HQ := Lib.hid hQ
 clear c0_5 rc0 hsz53 X52 hx53 hW hQ
 go_wp2_with fail
 go_roundg (gk - 1)
 case measure => have := HK.out; omega
 refine ⟨by have := HK.out; omega, num_eq (by have := HK.out; omega), Lib.hid ?_, Lib.hid (HSk.out.ext zxt), Lib.hid (HTk.out.ext zxt), Lib.hid ⟨zcv, zcv⟩, zxt⟩
 rw [show n - (gk - 1) = k + 1 from by have := HK.out; omega, HNX.out]
 have h := (HWk.out.ext zxt)
 simpa [clB, clN, nuB, stL, List.append_assoc] using h
theorem hBytes_any (n c n2 c2 : Nat) (A A2 : Option Addr) (cl ps : List I6) (w : World) (h : Sl w 6 A n c (cl.flatMap clsC)) (h2 : Sl w 6 A2 n2 c2 (ps.flatMap posC)) (hn : n = cl.length) (hn2 : n2 = ps.length) (hm : n ≤ 1024) (hm2 : n2 ≤ 1024) (hw : ∀ x ∈ cl, WdC x) (hw2 : ∀ x ∈ ps, WdP x) :
  Calls Tryz.prog 56 #[.agg #[.slice A n c, .slice A2 n2 c2]] w (ByErr (hldB cl ps) (chkH cl ps) w) := by
 by_cases hc : chkH cl ps = 0
 ·rw [hc]; exact hBytes_ok n c n2 c2 A A2 cl ps w h h2 hn hn2 hm hm2 hw hw2 ((chkH_iff cl ps).1 hc)
 exact hBytes_chk n c n2 c2 A A2 cl ps w h h2 hn hn2 hm hm2 hw hw2 _ rfl hc
end
section
open Go.RowKit
theorem fltB_none_ok {k n : Nat} : fltB none k n = false := by
 unfold fltB leftF endF
 simp only
 by_cases h : k < n
 ·rw [if_pos h]; simp; omega
 rw [if_neg h]; simp
theorem tk_put {L rest : List Nat} {k m : Nat} {lo hi : Int} (hL : L.drop k = putL m ++ rest) (hm : m < 18446744073709551616) (h1 : lo ≤ m) (h2 : (m : Int) ≤ hi) :
  tkS L (k, none) lo hi = (k + (putL m).length, none) ∧ tkV L (k, none) lo hi = m ∧ L.drop (k + (putL m).length) = rest := by
 obtain ⟨h3, h4, h5⟩ := rn_put hL hm h1 h2
 refine ⟨by unfold tkS; rw [h4, h5], h3, ?_⟩
 rw [← List.drop_drop, hL, List.drop_left]
theorem tk_back {L : List Nat} (hB : Byt L) {k : Nat} {lo hi : Int} (hlo : 0 ≤ lo) (h : (tkS L (k, none) lo hi).2 = none) :
  ∃ (m : Nat) (rest : List Nat), L.drop k = putL m ++ rest ∧ tkV L (k, none) lo hi = m ∧ tkS L (k, none) lo hi = (k + (putL m).length, none) ∧ L.drop (k + (putL m).length) = rest := by
 obtain ⟨m, rest, h1, h2, h3, _, _⟩ := rn_back hB hlo (show rnF L k none lo hi = none from h)
 refine ⟨m, rest, h1, h2, ?_, ?_⟩
 ·unfold tkS; rw [h3]; exact congrArg (Prod.mk _) h
 rw [← List.drop_drop, h1, List.drop_left]
theorem tkS_nz {L : List Nat} {s : Nat × Option (Int × Int)} {lo hi : Int} (h : FltNz s.2) : FltNz (tkS L s lo hi).2 := h.rn _ _ _ _
end
section
open Go.RowKit
section
variable {S : Nat → Prop} {w w' : World} {g k n q B : Nat} {L : List Nat} {flt : Option (Int × Int)} {base sz : Nat} {e : TypeId} {v : Value} {xs : List Value}
theorem RdT.rd (h : RdT q w g L k flt) : Rd w g L k flt := h.1
theorem RdT.new (h : Rd w g L k flt) (cs : Array Value) (t : TypeId) (ht : t ≠ 95) : RdT w.heap.size (w.alloc (.cells cs t)) g L k flt := by
 refine ⟨h.ext ((Ext.refl w).alloc _), h.lt, by simp, fun cs' z hh => ?_⟩
 rw [World.alloc_heap_new] at hh
 injection hh with hh
 injection hh with _ hh
 exact ht hh
theorem RdT.to {k' : Nat} {flt' : Option (Int × Int)} (h : RdT q w g L k flt) (hr : Rd w' g L k' flt') (hx : But (· = g) w w') : RdT q w' g L k' flt' :=
 ⟨hr, h.2.1, by have := h.2.2.1; have := hx.size; omega, fun cs z hh => h.2.2.2 cs z (by rw [← hh]; exact (hx.block q h.2.2.1 (fun e => by have := h.2.1; have e2 : q = g := e; omega)).symm)⟩
end
theorem cRN_T (q g k : Nat) (L : List Nat) (flt : Option (Int × Int)) (least most : Int) (h0 : 0 ≤ least) (h1 : least ≤ 9223372036854775807) (h2 : 0 ≤ most) (h3 : most ≤ 9223372036854775807) (hL : L.length < 1099511627776) (w : World) (h : RdT q w g L k flt) :
  Calls Tryz.prog 106 #[.pointer (some ⟨g, 0, none⟩), .int .i64 least, .int .i64 most] w fun r w' => r = .returned (.int .i64 (rnV L k flt least most)) ∧ RdT q w' g L (rnK L k flt least most) (rnF L k flt least most) ∧ But (· = g) w w' :=
 (cRN_any g k L flt least most h0 h1 h2 h3 hL w h.1).mono fun r w' hh => ⟨hh.1, h.to hh.2.1 hh.2.2, hh.2.2⟩
theorem cFail_T (q g k : Nat) (L : List Nat) (flt : Option (Int × Int)) (e a : Int) (w : World) (h : RdT q w g L k flt) :
  Calls Tryz.prog 111 #[.pointer (some ⟨g, 0, none⟩), .int .i64 e, .int .i64 a] w fun r w' => (∃ v, r = .returned v) ∧ RdT q w' g L k (failF flt e a) ∧ But (· = g) w w' :=
 (cFail_any g k L flt e a w h.1).mono fun r w' hh => ⟨hh.1, h.to hh.2.1 hh.2.2, hh.2.2⟩
theorem flt_neq (e a e' a' : Int) (w : World) : (binOp .neq 95 (.agg #[.int .i64 e, .int .i64 a]) (.agg #[.int .i64 e', .int .i64 a'])).run Tryz.prog w = .ok (.bool (!(e == e' && a == a'))) w := by
 have hS : Tryz.prog.underlying 95 = some (.struct (Tryz.prog.fieldsOf 95)) := by kernel_rfl
 have hp : Tryz.prog.stoodInHeld 95 = false := by kernel_rfl
 rw [run_neq_struct, show (10000 : Nat) = 9999 + 1 from rfl, run_equalIn_agg w 9999 95 _ _ hS hp]
 simp only [Program.fieldsOf, Tryz.underlying95]
 go_simp
 by_cases h0 : e = e' <;> by_cases h1 : a = a' <;> simp [h0, h1]
theorem flt_eqg (op : BinOp) (x y : Operand) (xs ys : Array Value) (w : World) : (eqGuard op 95 x y (.agg xs) (.agg ys)).run Tryz.prog w = .ok () w := run_eqGuard_agg w op 95 x y xs ys (by kernel_rfl)
theorem own_ne_fault {w : World} {base sz n g : Nat} {e : TypeId} {v : Value} {xs : List Value} (h : w.ownsRow base e sz v n xs) (hg : g < base) (ht : e ≠ 95) : ∀ j, j < w.heap.size → v.ownBlock = some j → g < j ∧ ∀ cs z, w.heap[j]? ≠ some (.cells cs 95 z) := by
 intro j _ hj
 obtain ⟨h1, _, cs0, h3⟩ := own_block h hj
 refine ⟨by omega, fun cs z hh => ?_⟩
 rw [h3] at hh
 injection hh with hh
 injection hh with _ hh
 exact ht hh
theorem rnV_in (L : List Nat) (k : Nat) (flt : Option (Int × Int)) (least most : Int) (h2 : 0 ≤ most) : 0 ≤ rnV L k flt least most ∧ rnV L k flt least most ≤ most := by
 unfold rnV
 split
 ·rename_i h
  have := rnE_zero h.2
  omega
 omega
theorem cRN_Te (q g k k' : Nat) (L : List Nat) (flt flt' : Option (Int × Int)) (least most v : Int) (h0 : 0 ≤ least) (h1 : least ≤ 9223372036854775807) (h2 : 0 ≤ most) (h3 : most ≤ 9223372036854775807) (hL : L.length < 1099511627776) (hv : v = rnV L k flt least most) (hk : k' = rnK L k flt least most) (hf : flt' = rnF L k flt least most) (w : World) (h : RdT q w g L k flt) :
  Calls Tryz.prog 106 #[.pointer (some ⟨g, 0, none⟩), .int .i64 least, .int .i64 most] w fun r w' => r = .returned (.int .i64 v) ∧ RdT q w' g L k' flt' ∧ But (· = g) w w' := by
 subst hv hk hf
 exact cRN_T q g k L flt least most h0 h1 h2 h3 hL w h
end
section
open Go.RowKit Go.ChangeShapes Go.WideShapes Go.Deep Go.Joins
abbrev Flt := Option (Int × Int)
theorem tTake_e (g k k' : Nat) (L : List Nat) (f f' : Option (Int × Int)) (a b c d : Int) (hL : L.length < 1099511627776) (ha : a = if tkZ L (k, f) = true then 0 else tkA L (k, f)) (hb : b = if tkZ L (k, f) = true then 0 else tkB L (k, f)) (hc : c = if tkZ L (k, f) = true then 0 else tkC L (k, f) - 1) (hd : d = if tkZ L (k, f) = true then 0 else tkD L (k, f)) (hk : k' = (tk4 L (k, f)).1) (hf : f' = tkF L (k, f)) (w : World) (h : Rd w g L k f) :
  Calls Tryz.prog 108 #[.pointer (some ⟨g, 0, none⟩)] w fun r w' => r = .returned (.agg #[.int .i64 a, .int .i64 b, .int .i64 c, .int .i64 d]) ∧ Rd w' g L k' f' ∧ But (· = g) w w' := by
 subst ha; subst hb; subst hc; subst hd; subst hk; subst hf
 exact tTake_any g k L f hL w h
theorem cEnd_q (g k : Nat) (L : List Nat) (flt : Option (Int × Int)) (e a : Int) (w : World) (h : Rd w g L k flt) (hL : L.length < 1099511627776) (he : (e, a) = endF flt k L.length) :
  Calls Tryz.prog 114 #[.pointer (some ⟨g, 0, none⟩)] w fun r w' => r = .returned (.agg #[.int .i64 e, .int .i64 a]) ∧ Ext w w' := by
 have h := cEnd_any g k L flt w h hL
 rw [← he] at h
 exact h
theorem ruF_s (L : List Nat) (k : Nat) (x : Int × Int) : ruF L k (some x) = some x := by unfold ruF; rw [if_neg (by simp)]
theorem rnF_s (L : List Nat) (k : Nat) (x : Int × Int) (lo hi : Int) : rnF L k (some x) lo hi = some x := by unfold rnF; rw [if_neg (by simp)]
theorem tk4_s (L : List Nat) (k : Nat) (x : Int × Int) : (tk4 L (k, some x)).2 = some x := by
 have e : ∀ (s : Nat × Option (Int × Int)) lo hi, s.2 = some x → (tkS L s lo hi).2 = some x := fun s lo hi h => by
  obtain ⟨k, f⟩ := s
  subst h
  exact rnF_s L k x lo hi
 exact e _ _ _ (e _ _ _ (e _ _ _ (e _ _ _ rfl)))
theorem tkF_s (L : List Nat) (k : Nat) (x : Int × Int) : tkF L (k, some x) = some x := by
 unfold tkF
 rw [tk4_s]
 split
 ·rfl
 rfl
theorem ru_w (L : List Nat) (k : Nat) (f : Option (Int × Int)) : Word (ruV L k f) := by
 unfold ruV
 split
 ·have hn := numGo_lt (L.drop k) 0 0 (by decide) (by decide)
  exact ⟨by omega, by omega⟩
 exact ⟨by omega, by omega⟩
theorem ruq_nz {L : List Nat} {k : Nat} {f : Option (Int × Int)} (h : FltNz f) : FltNz (ruF L k f) := by
 unfold ruF
 split
 ·exact FltNz.none.fail _ _
 exact h
theorem tkF_nz {L : List Nat} {k : Nat} {f : Option (Int × Int)} (h : FltNz f) : FltNz (tkF L (k, f)) := by
 have h4 : FltNz (tk4 L (k, f)).2 := tkS_nz (tkS_nz (tkS_nz (tkS_nz h)))
 unfold tkF
 split
 ·exact h4
 exact h4.fail _ _
theorem ruq_put {L rest : List Nat} {k m : Nat} (hL : L.drop k = putL m ++ rest) (hm : m < 18446744073709551616) : ruV L k none = m ∧ ruK L k none = k + (putL m).length ∧ ruF L k none = none := by
 have e := numGo_putL m m 0 0 rest (Nat.le_refl _) (fun h => absurd h (by omega)) (by omega) (by omega)
 rw [← hL] at e
 have e0 : ruE L k = 0 := by unfold ruE; rw [e]
 unfold ruV ruK ruF
 rw [e0, e]
 simp [failF]
theorem ruq_back {L : List Nat} (hB : Byt L) {k : Nat} (h : ruF L k none = none) : ∃ m rest, L.drop k = putL m ++ rest ∧ ruV L k none = (m : Int) ∧ ruK L k none = k + (putL m).length ∧ m < 18446744073709551616 := by
 have e0 : ruE L k = 0 := by
  unfold ruF at h
  rw [if_pos rfl] at h
  exact (failF_none h).2
 obtain ⟨n, k', e, hx⟩ : ∃ n k' e, numGo (L.drop k) 0 0 = (n, k', e) := ⟨_, _, _, rfl⟩
 have hb := e0
 unfold ruE at hb
 rw [hx] at hb
 simp only at hb
 subst hb
 have hBd : Byt (L.drop k) := fun x hx => hB x (List.mem_of_mem_drop hx)
 obtain ⟨m, rest, hL, hn, hk, _⟩ := numGo_back (L.drop k) 0 0 n k' hBd hx
 have hlt := numGo_lt' (L.drop k) 0 0 (by omega) (by decide) hBd
 rw [hx] at hlt
 simp at hn hk hlt
 subst hn; subst hk
 unfold ruV ruK
 rw [e0, hx]
 exact ⟨n, rest, hL, by simp, by simp, hlt⟩
theorem ruq_none {L : List Nat} {k : Nat} {f : Option (Int × Int)} (h : ruF L k f = none) : f = none := by
 cases f with
 | none => rfl
 | some x => rw [ruF_s] at h; cases h
theorem tkF_none {L : List Nat} {k : Nat} {f : Option (Int × Int)} (h : tkF L (k, f) = none) : f = none := by
 cases f with
 | none => rfl
 | some x => rw [tkF_s] at h; cases h
theorem takeq_put {L p rest : List Nat} {k : Nat} (h : L.drop k = p ++ rest) : L.take (k + p.length) = L.take k ++ p ∧ L.drop (k + p.length) = rest := by
 refine ⟨?_, ?_⟩
 ·rw [List.take_add, h, List.take_left]
 rw [← List.drop_drop, h, List.drop_left]
theorem nuB4 (a b c d : Int) : nuB [a, b, c, d] = putL a.toNat ++ (putL b.toNat ++ (putL c.toNat ++ putL d.toNat)) := by simp [nuB]
theorem stl_nuB (V S P F : Int) : nuB (stL V S P F) = putL V.toNat ++ (putL S.toNat ++ (putL (P + 1).toNat ++ putL F.toNat)) := nuB4 _ _ _ _
theorem tkq_put {L rest : List Nat} {k : Nat} {V S P F : Int} (h : chkS V S P F = 0) (hL : L.drop k = nuB (stL V S P F) ++ rest) :
  tk4 L (k, none) = (k + (nuB (stL V S P F)).length, none) ∧ tkA L (k, none) = V ∧ tkB L (k, none) = S ∧ tkC L (k, none) = P + 1 ∧ tkD L (k, none) = F ∧ tkF L (k, none) = none ∧ tkZ L (k, none) = false := by
 obtain ⟨v0, v1, s0, s1, p0, p1, f0, f1, _, _, _⟩ := chkS_ok h
 have hlen : (nuB (stL V S P F)).length = (putL V.toNat).length + ((putL S.toNat).length + ((putL (P + 1).toNat).length + (putL F.toNat).length)) := by rw [stl_nuB]; simp only [List.length_append]
 rw [stl_nuB] at hL
 simp only [List.append_assoc] at hL
 obtain ⟨a1, a2, a3⟩ := tk_put (L := L) (k := k) (lo := 0) (hi := 31) hL (by omega) (by omega) (by omega)
 obtain ⟨b1, b2, b3⟩ := tk_put (lo := 1) (hi := 4294967296) a3 (by omega) (by omega) (by omega)
 obtain ⟨c1, c2, c3⟩ := tk_put (lo := 0) (hi := 32) b3 (by omega) (by omega) (by omega)
 obtain ⟨d1, d2, d3⟩ := tk_put (lo := 0) (hi := 4294967296) c3 (by omega) (by omega) (by omega)
 have e1 : tk1 L (k, none) = (k + (putL V.toNat).length, none) := a1
 have e2 : tk2 L (k, none) = (k + (putL V.toNat).length + (putL S.toNat).length, none) := by unfold tk2; rw [e1]; exact b1
 have e3 : tk3 L (k, none) = (k + (putL V.toNat).length + (putL S.toNat).length + (putL (P + 1).toNat).length, none) := by unfold tk3; rw [e2]; exact c1
 have e4 : tk4 L (k, none) = (k + (nuB (stL V S P F)).length, none) := by
  have : tk4 L (k, none) = (k + (putL V.toNat).length + (putL S.toNat).length + (putL (P + 1).toNat).length + (putL F.toNat).length, none) := by unfold tk4; rw [e3]; exact d1
  rw [this, hlen, Prod.mk.injEq]
  exact ⟨by omega, rfl⟩
 have ea : tkA L (k, none) = V := by unfold tkA; rw [a2]; omega
 have eb : tkB L (k, none) = S := by unfold tkB; rw [e1, b2]; omega
 have ec : tkC L (k, none) = P + 1 := by unfold tkC; rw [e2, c2]; omega
 have ed : tkD L (k, none) = F := by unfold tkD; rw [e3, d2]; omega
 have hf : tkF L (k, none) = none := by
  unfold tkF
  rw [e4, ea, eb, ec, ed, fltB_none_ok, show P + 1 - 1 = P from by omega, h]
  simp [failF]
 refine ⟨e4, ea, eb, ec, ed, hf, ?_⟩
 unfold tkZ
 rw [hf, fltB_none_ok]
theorem tkq_back {L : List Nat} (hB : Byt L) {k : Nat} (h : tkF L (k, none) = none) :
  ∃ rest, L.drop k = nuB (stL (tkA L (k, none)) (tkB L (k, none)) (tkC L (k, none) - 1) (tkD L (k, none))) ++ rest ∧ (tk4 L (k, none)).1 = k + (nuB (stL (tkA L (k, none)) (tkB L (k, none)) (tkC L (k, none) - 1) (tkD L (k, none)))).length ∧ tkZ L (k, none) = false := by
 have hz : tkZ L (k, none) = false := by unfold tkZ; rw [h, fltB_none_ok]
 have h4 : (tk4 L (k, none)).2 = none := by
  unfold tkF at h
  split at h
  ·exact h
  exact (failF_none h).1
 have h3 : (tk3 L (k, none)).2 = none := rnF_none (show rnF L _ (tk3 L (k, none)).2 _ _ = none from h4)
 have h2 : (tk2 L (k, none)).2 = none := rnF_none (show rnF L _ (tk2 L (k, none)).2 _ _ = none from h3)
 have h1 : (tk1 L (k, none)).2 = none := rnF_none (show rnF L _ (tk1 L (k, none)).2 _ _ = none from h2)
 obtain ⟨a, r1, a1, a2, a3, a4⟩ := tk_back hB (by decide) (show (tkS L (k, none) 0 31).2 = none from h1)
 have e1 : tk1 L (k, none) = (k + (putL a).length, none) := a3
 have h2' := h2; unfold tk2 at h2'; rw [e1] at h2'
 obtain ⟨b, r2, b1, b2, b3, b4⟩ := tk_back hB (by decide) h2'
 have e2 : tk2 L (k, none) = (k + (putL a).length + (putL b).length, none) := by unfold tk2; rw [e1]; exact b3
 have h3' := h3; unfold tk3 at h3'; rw [e2] at h3'
 obtain ⟨c, r3, c1, c2, c3, c4⟩ := tk_back hB (by decide) h3'
 have e3 : tk3 L (k, none) = (k + (putL a).length + (putL b).length + (putL c).length, none) := by unfold tk3; rw [e2]; exact c3
 have h4' := h4; unfold tk4 at h4'; rw [e3] at h4'
 obtain ⟨d, r4, d1, d2, d3, d4⟩ := tk_back hB (by decide) h4'
 have e4 : tk4 L (k, none) = (k + (putL a).length + (putL b).length + (putL c).length + (putL d).length, none) := by unfold tk4; rw [e3]; exact d3
 have ea : tkA L (k, none) = a := a2
 have eb : tkB L (k, none) = b := by unfold tkB; rw [e1]; exact b2
 have ec : tkC L (k, none) = c := by unfold tkC; rw [e2]; exact c2
 have ed : tkD L (k, none) = d := by unfold tkD; rw [e3]; exact d2
 have e5 : nuB (stL (tkA L (k, none)) (tkB L (k, none)) (tkC L (k, none) - 1) (tkD L (k, none))) = putL a ++ (putL b ++ (putL c ++ putL d)) := by
  rw [stl_nuB, ea, eb, ec, ed, show (c : Int) - 1 + 1 = c from by omega, Int.toNat_natCast, Int.toNat_natCast, Int.toNat_natCast, Int.toNat_natCast]
 refine ⟨r4, ?_, ?_, hz⟩
 ·rw [e5, a1, ← a4, b1, ← b4, c1, ← c4, d1]
  simp only [List.append_assoc]
 rw [e5, e4]
 simp only [List.length_append]
 omega
theorem rnV_s (L : List Nat) (k : Nat) (x : Int × Int) (lo hi : Int) : rnV L k (some x) lo hi = 0 := by unfold rnV; rw [if_neg (by simp)]
def hRdC (L : List Nat) (k : Nat) (f : Flt) : Nat × Flt × I6 :=
 let k1 := (tk4 L (k, f)).1; let f1 := tkF L (k, f)
 let k2 := ruK L k1 f1; let f2 := ruF L k1 f1
 (ruK L k2 f2, ruF L k2 f2, (if tkZ L (k, f) = true then 0 else tkA L (k, f), if tkZ L (k, f) = true then 0 else tkB L (k, f), if tkZ L (k, f) = true then 0 else tkC L (k, f) - 1, if tkZ L (k, f) = true then 0 else tkD L (k, f), ruV L k1 f1, ruV L k2 f2))
def hRdP (L : List Nat) (k : Nat) (f : Flt) : Nat × Flt × I6 :=
 let k1 := rnK L k f 0 63; let f1 := rnF L k f 0 63
 let k2 := (tk4 L (k1, f1)).1; let f2 := tkF L (k1, f1)
 (ruK L k2 f2, ruF L k2 f2, (rnV L k f 0 63, if tkZ L (k1, f1) = true then 0 else tkA L (k1, f1), if tkZ L (k1, f1) = true then 0 else tkB L (k1, f1), if tkZ L (k1, f1) = true then 0 else tkC L (k1, f1) - 1, if tkZ L (k1, f1) = true then 0 else tkD L (k1, f1), ruV L k2 f2))
theorem hRdC_eq {L : List Nat} {k k1 k2 k3 : Nat} {f f1 f2 f3 : Flt} {xv xs xp xf xt xh : Int}
  (b1 : xv = if tkZ L (k, f) = true then 0 else tkA L (k, f)) (b2 : xs = if tkZ L (k, f) = true then 0 else tkB L (k, f)) (b3 : xp = if tkZ L (k, f) = true then 0 else tkC L (k, f) - 1) (b4 : xf = if tkZ L (k, f) = true then 0 else tkD L (k, f)) (b5 : k1 = (tk4 L (k, f)).1) (b6 : f1 = tkF L (k, f))
  (d1 : xt = ruV L k1 f1) (d2 : k2 = ruK L k1 f1) (d3 : f2 = ruF L k1 f1) (e1 : xh = ruV L k2 f2) (e2 : k3 = ruK L k2 f2) (e3 : f3 = ruF L k2 f2) :
  hRdC L k f = (k3, f3, (xv, xs, xp, xf, xt, xh)) := by
 subst b1; subst b2; subst b3; subst b4; subst b5; subst b6; subst d1; subst d2; subst d3; subst e1; subst e2; subst e3
 rfl
theorem hRdP_eq {L : List Nat} {k k1 k2 k3 : Nat} {f f1 f2 f3 : Flt} {xo xv xs xp xf xh : Int}
  (a1 : xo = rnV L k f 0 63) (a2 : k1 = rnK L k f 0 63) (a3 : f1 = rnF L k f 0 63) (b1 : xv = if tkZ L (k1, f1) = true then 0 else tkA L (k1, f1)) (b2 : xs = if tkZ L (k1, f1) = true then 0 else tkB L (k1, f1)) (b3 : xp = if tkZ L (k1, f1) = true then 0 else tkC L (k1, f1) - 1) (b4 : xf = if tkZ L (k1, f1) = true then 0 else tkD L (k1, f1)) (b5 : k2 = (tk4 L (k1, f1)).1) (b6 : f2 = tkF L (k1, f1))
  (d1 : xh = ruV L k2 f2) (d2 : k3 = ruK L k2 f2) (d3 : f3 = ruF L k2 f2) :
  hRdP L k f = (k3, f3, (xo, xv, xs, xp, xf, xh)) := by
 subst a1; subst a2; subst a3; subst b1; subst b2; subst b3; subst b4; subst b5; subst b6; subst d1; subst d2; subst d3
 rfl
structure Rdr (rd : Nat → Flt → Nat × Flt × I6) (Wd : I6 → Prop) : Prop where
 some_ : ∀ k x, (rd k (some x)).2.1 = some x
 nz : ∀ k f, FltNz f → FltNz (rd k f).2.1
 wd : ∀ k f, Wd (rd k f).2.2
theorem hRdC_rdr (L : List Nat) : Rdr (hRdC L) WdC := by
 refine ⟨fun k x => ?_, fun k f h => ruq_nz (ruq_nz (tkF_nz h)), fun k f => ⟨ru_w _ _ _, ru_w _ _ _⟩⟩
 show ruF L _ (ruF L _ (tkF L (k, some x))) = _
 rw [tkF_s, ruF_s, ruF_s]
theorem hRdP_rdr (L : List Nat) : Rdr (hRdP L) WdP := by
 refine ⟨fun k x => ?_, fun k f h => ruq_nz (tkF_nz (h.rn _ _ _ _)), fun k f => ru_w _ _ _⟩
 show ruF L _ (tkF L (_, rnF L k (some x) 0 63)) = _
 rw [rnF_s, tkF_s, ruF_s]
def lstK (key : I6 → List Int) (l : List I6) : Option (List Int) := l.getLast?.map key
def rwS1 (rd : Nat → Flt → Nat × Flt × I6) (one : Option (List Int) → I6 → Int) (key : I6 → List Int) (s : Nat × Flt × List I6) : Nat × Flt × List I6 :=
 match s.2.1 with
 | some _ => s
 | none => if (rd s.1 none).2.1 = none then ((rd s.1 none).1, failF none (one (lstK key s.2.2) (rd s.1 none).2.2) (s.1 : Int), s.2.2 ++ [(rd s.1 none).2.2]) else ((rd s.1 none).1, (rd s.1 none).2.1, s.2.2)
def rwS (rd : Nat → Flt → Nat × Flt × I6) (one : Option (List Int) → I6 → Int) (key : I6 → List Int) (s : Nat × Flt × List I6) : Nat → Nat × Flt × List I6
 | 0 => s
 | j + 1 => rwS1 rd one key (rwS rd one key s j)
section
variable {rd : Nat → Flt → Nat × Flt × I6} {one : Option (List Int) → I6 → Int} {key : I6 → List Int} {Wd : I6 → Prop} {s : Nat × Flt × List I6}
theorem rwS1_some {x : Int × Int} (h : s.2.1 = some x) : rwS1 rd one key s = s := by unfold rwS1; rw [h]
theorem rwS_stay {x : Int × Int} {j : Nat} (h : (rwS rd one key s j).2.1 = some x) : ∀ m, rwS rd one key s (j + m) = rwS rd one key s j
 | 0 => rfl
 | m + 1 => by
  have ih := rwS_stay h m
  show rwS1 rd one key (rwS rd one key s (j + m)) = _
  rw [ih]
  exact rwS1_some h
theorem rwS_some {x : Int × Int} {j n : Nat} (h : (rwS rd one key s j).2.1 = some x) (hn : j ≤ n) : (rwS rd one key s n).2.1 = some x := by
 have := rwS_stay h (n - j)
 rw [show j + (n - j) = n from by omega] at this
 rw [this, h]
def RI (rd : Nat → Flt → Nat × Flt × I6) (one : Option (List Int) → I6 → Int) (key : I6 → List Int) (Wd : I6 → Prop) (s : Nat × Flt × List I6) (j k : Nat) (f : Flt) (out : List I6) : Prop :=
 (rwS rd one key s j).2.1 = f ∧ (f = none → rwS rd one key s j = (k, none, out)) ∧ out.length ≤ j ∧ (∀ x ∈ out, Wd x) ∧ FltNz f
theorem RI.start {k : Nat} {f : Flt} (hf : s.2.1 = f) (hs : f = none → s = (k, none, [])) (hz : FltNz f) : RI rd one key Wd s 0 k f [] := ⟨hf, hs, Nat.le_refl _, (fun x h => by cases h), hz⟩
theorem RI.step (hr : Rdr rd Wd) {j k k5 : Nat} {f f5 : Flt} {y : I6} {ev : Int} {out : List I6} (h : RI rd one key Wd s j k f out) (hx : rd k f = (k5, f5, y)) (he : ev = one (lstK key out) y) : RI rd one key Wd s (j + 1) k5 (failF f5 ev (atF f k)) (out ++ [y]) := by
 obtain ⟨h1, h2, h3, h4, h5⟩ := h
 have hw : ∀ z ∈ out ++ [y], Wd z := fun z hz => by
  rcases List.mem_append.1 hz with hz | hz
  ·exact h4 z hz
  rw [List.mem_singleton.1 hz]
  have := hr.wd k f
  rw [hx] at this
  exact this
 have hl : (out ++ [y]).length ≤ j + 1 := by rw [List.length_append]; simpa using h3
 have hn : FltNz f5 := by have := hr.nz k f h5; rw [hx] at this; exact this
 cases f with
 | some x =>
  have e := hr.some_ k x
  rw [hx] at e
  change f5 = some x at e
  subst e
  exact ⟨rwS_some h1 (by omega), (fun h => by cases h), hl, hw, hn⟩
 | none =>
  have e := h2 rfl
  have e1 : rwS rd one key s (j + 1) = if f5 = none then (k5, failF none ev (k : Int), out ++ [y]) else (k5, f5, out) := by
   show rwS1 rd one key (rwS rd one key s j) = _
   rw [e]
   unfold rwS1
   simp only [hx, ← he]
  cases f5 with
  | some x =>
   rw [if_neg (by simp)] at e1
   exact ⟨by rw [e1]; rfl, (fun h => by cases h), hl, hw, hn⟩
  | none =>
   rw [if_pos rfl] at e1
   refine ⟨by rw [e1]; rfl, fun hq => ?_, hl, hw, FltNz.none.fail _ _⟩
   rw [e1]
   show (k5, failF none ev (k : Int), out ++ [y]) = _
   rw [show failF none ev (k : Int) = none from hq]
theorem rwS_none {j : Nat} (h : (rwS rd one key s j).2.1 = none) : s.2.1 = none := by
 cases hs : s.2.1 with
 | none => rfl
 | some x => have := rwS_some (rd := rd) (one := one) (key := key) (s := s) (j := 0) hs (Nat.zero_le j); rw [this] at h; cases h
theorem rwS_nz (hr : Rdr rd Wd) (h : FltNz s.2.1) : ∀ j, FltNz (rwS rd one key s j).2.1
 | 0 => h
 | j + 1 => by
  have ih := rwS_nz hr h j
  show FltNz (rwS1 rd one key (rwS rd one key s j)).2.1
  unfold rwS1
  split
  ·exact ih
  ·split
   ·exact FltNz.none.fail _ _
   ·exact hr.nz _ _ FltNz.none
end
def clsRd (pr : Option (List Int)) (c : I6) : Int := if prevGe pr (kC c) = true then 9 else if chkE (toC c) (shC c) ≠ 0 then chkE (toC c) (shC c) else if toC c = 0 ∧ shC c = 0 then 11 else 0
def posRd (pr : Option (List Int)) (p : I6) : Int := if prevGe pr (kP p) = true then 9 else 0
def hS0 (L : List Nat) : Nat × Flt × List I6 := (rnK L 0 none 0 1024, rnF L 0 none 0 1024, [])
def hS1 (L : List Nat) : Nat × Flt × List I6 := rwS (hRdC L) clsRd kC (hS0 L) (rnV L 0 none 0 1024).toNat
def hT0 (L : List Nat) : Nat × Flt × List I6 := (rnK L (hS1 L).1 (hS1 L).2.1 0 65536, rnF L (hS1 L).1 (hS1 L).2.1 0 65536, [])
def hT1 (L : List Nat) : Nat × Flt × List I6 := rwS (hRdP L) posRd kP (hT0 L) (rnV L (hS1 L).1 (hS1 L).2.1 0 65536).toNat
def hldRV (L : List Nat) : List I6 × List I6 × Int × Int :=
 if (endF (hT1 L).2.1 (hT1 L).1 L.length).1 ≠ 0 then ([], [], endF (hT1 L).2.1 (hT1 L).1 L.length) else if chkH (hS1 L).2.2 (hT1 L).2.2 = 0 then ((hS1 L).2.2, (hT1 L).2.2, 0, 0) else ([], [], chkH (hS1 L).2.2 (hT1 L).2.2, 0)
abbrev RIC (L : List Nat) := RI (hRdC L) clsRd kC WdC (hS0 L)
abbrev RIP (L : List Nat) := RI (hRdP L) posRd kP WdP (hT0 L)
theorem RIC.start (L : List Nat) : RIC L 0 (hS0 L).1 (hS0 L).2.1 [] := RI.start rfl (fun h => by unfold hS0 at h ⊢; simp only at h; rw [h]) (FltNz.none.rn _ _ _ _)
def CEnd (L : List Nat) (k : Nat) (f : Flt) (out : List I6) : Prop := (hS1 L).2.1 = f ∧ (f = none → hS1 L = (k, none, out)) ∧ FltNz f
theorem RI.cend {L : List Nat} {N k : Nat} {f : Flt} {out : List I6} (h : RIC L N k f out) (hN : (N : Int) = rnV L 0 none 0 1024) : CEnd L k f out := by
 have e : hS1 L = rwS (hRdC L) clsRd kC (hS0 L) N := by unfold hS1; rw [← hN]; simp
 exact ⟨by rw [e]; exact h.1, fun hf => by rw [e]; exact h.2.1 hf, h.2.2.2.2⟩
theorem CEnd.cnt {L : List Nat} {k : Nat} {f : Flt} {out : List I6} (h : CEnd L k f out) : rnV L k f 0 65536 = rnV L (hS1 L).1 (hS1 L).2.1 0 65536 := by
 obtain ⟨h1, h2, _⟩ := h
 cases f with
 | none => rw [h2 rfl]
 | some x => rw [h1, rnV_s, rnV_s]
theorem CEnd.start {L : List Nat} {k : Nat} {f : Flt} {out : List I6} (h : CEnd L k f out) : RIP L 0 (rnK L k f 0 65536) (rnF L k f 0 65536) [] := by
 obtain ⟨h1, h2, h3⟩ := h
 refine RI.start ?_ (fun hf => ?_) (h3.rn _ _ _ _)
 ·cases f with
  | none => unfold hT0; rw [h2 rfl]
  | some x => unfold hT0; rw [h1, rnF_s, rnF_s]
 have hn := rnF_none hf
 subst hn
 unfold hT0
 rw [h2 rfl]
 simp only
 rw [hf]
theorem RI.pend {L : List Nat} {N k k0 : Nat} {f f0 : Flt} {e a : Int} {cl ps R1 R2 : List I6} {re ra : Int} (h0 : CEnd L k0 f0 cl) (h : RIP L N k f ps) (hN : (N : Int) = rnV L (hS1 L).1 (hS1 L).2.1 0 65536) (he : (e, a) = endF f k L.length) (hR : (R1, R2, re, ra) = hldRV L) :
  (e ≠ 0 → R1 = [] ∧ R2 = [] ∧ re = e ∧ ra = a) ∧ (e = 0 → a = 0 ∧ f = none ∧ f0 = none ∧ (chkH cl ps = 0 → R1 = cl ∧ R2 = ps ∧ re = 0 ∧ ra = 0) ∧ (chkH cl ps ≠ 0 → R1 = [] ∧ R2 = [] ∧ re = chkH cl ps ∧ ra = 0)) := by
 have eT : hT1 L = rwS (hRdP L) posRd kP (hT0 L) N := by unfold hT1; rw [← hN]; simp
 obtain ⟨h1, h2, h3, h4, h5⟩ := h
 rw [← eT] at h1 h2
 cases f with
 | some x =>
  have ex : (e, a) = x := he
  have hx0 : e ≠ 0 := by have := h5 x rfl; rw [← ex] at this; exact this
  refine ⟨fun _ => ?_, fun h0 => absurd h0 hx0⟩
  unfold hldRV at hR
  rw [h1] at hR
  rw [show endF (some x) (hT1 L).1 L.length = x from rfl, ← ex, if_pos hx0] at hR
  simp only [Prod.mk.injEq] at hR
  exact hR
 | none =>
  have hq := h2 rfl
  have hf0 : f0 = none := by
   have := rwS_none (show (rwS (hRdP L) posRd kP (hT0 L) N).2.1 = none from by rw [← eT]; exact h1)
   have := rnF_none (show rnF L (hS1 L).1 (hS1 L).2.1 0 65536 = none from this)
   rw [h0.1] at this
   exact this
  have hc := h0.2.1 hf0
  unfold hldRV at hR
  rw [hq, hc] at hR
  simp only at hR
  rw [← he] at hR
  refine ⟨fun hh => by rw [if_pos hh] at hR; simp only [Prod.mk.injEq] at hR; exact hR, fun hh => ?_⟩
  rw [if_neg (by simpa using hh)] at hR
  have ha : a = 0 := by
   unfold endF at he
   simp only at he
   split at he
   ·injection he with q1 q2; omega
   injection he
  refine ⟨ha, rfl, hf0, fun hk => ?_, fun hk => ?_⟩
  ·rw [if_pos hk] at hR; simp only [Prod.mk.injEq] at hR; exact hR
  rw [if_neg hk] at hR; simp only [Prod.mk.injEq] at hR; exact hR
theorem failF_two (f : Flt) (a b p : Int) : failF (failF f a p) b p = failF f (if a = 0 then b else a) p := by
 cases f with
 | some x => rfl
 | none => by_cases h : a = 0 <;> simp [failF, h]
theorem clsRd_parts (pr : Option (List Int)) (c : I6) {e1 e2 e3 : Int} (h1 : e1 = if prevGe pr (kC c) = true then 9 else 0) (h2 : e2 = chkE (toC c) (shC c)) (h3 : e3 = if toC c = 0 ∧ shC c = 0 then 11 else 0) : clsRd pr c = if (if e1 = 0 then e2 else e1) = 0 then e3 else (if e1 = 0 then e2 else e1) := by
 subst h1; subst h2; subst h3
 unfold clsRd
 by_cases a : prevGe pr (kC c) = true
 ·simp [a]
 by_cases b : chkE (toC c) (shC c) = 0 <;> simp [a, b]
end
end Go.Proofs.YtkinchgjidpjnaaGreat
