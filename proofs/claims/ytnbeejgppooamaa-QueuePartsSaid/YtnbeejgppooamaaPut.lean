/- codec.Put: a number's bytes, by a range over a function. Conditions stand in each lemma. -/
import Derived.RangeFuncBox
import Derived.RangeFuncLeaves
import Derived.Shelf.Abstract
import Derived.WalkKit
import Derived.OwnWalkIn
import Derived.TacticsInMore
import Derived.LoopNIn
import Derived.LoopIn
import Derived.Maps.AppendAt
import Derived.Test.YtnbeejgppooamaaRows
import Derived.Test.YtnbeejgppooamaaMem
import Derived.Lib.Hide
import Derived.Deep.Onto
set_option linter.unusedVariables false
set_option linter.unusedSimpArgs false
namespace Go.Proofs.Ytnbeejgppooamaa
open Go.RowKit Go.Shelf

attribute [local go_sem] Oper.semAt_some

/-- a number's bytes -/
def putL (n : Nat) : List Nat := if h : n < 128 then [n] else (n % 128 + 128) :: putL (n / 128)
termination_by n
decreasing_by omega
theorem putL_lt {n : Nat} (h : n < 128) : putL n = [n] := by rw [putL, dif_pos h]
theorem putL_ge {n : Nat} (h : ¬ n < 128) : putL n = (n % 128 + 128) :: putL (n / 128) := by rw [putL, dif_neg h]
theorem putL_len (n : Nat) : ∀ k, n < 2 ^ (7 * (k + 1)) → (putL n).length ≤ k + 1 := by
  intro k
  induction k generalizing n with
  | zero => intro h; rw [putL_lt (by simpa using h)]; simp
  | succ k ih =>
    intro h
    by_cases h1 : n < 128
    · rw [putL_lt h1]; simp
    · rw [putL_ge h1, List.length_cons]
      have : n / 128 < 2 ^ (7 * (k + 1)) := by
        rw [Nat.div_lt_iff_lt_mul (by decide)]
        have e : 2 ^ (7 * (k + 1 + 1)) = 2 ^ (7 * (k + 1)) * 128 := by
          rw [show 7 * (k + 1 + 1) = 7 * (k + 1) + 7 from by omega, Nat.pow_add]
        omega
      have := ih (n / 128) this
      omega

/-- how a round's body is left: off its end -/
def cellPost (n0 : Nat) (J : World → Prop) (W : World) : Exit → Act → World → Prop
  | .normal, _, W' => KeepsOthers W W' ∧ Below n0 W W' ∧ J W'
  | _, _, _ => False
/-- A range over a function that keeps a variable of its own in a cell (block nb, captured), and whose rounds never leave. The iterator's contract is asked for what abides a store into that cell. -/
theorem rangeFunc_cell {α : Type} {F : Fence} {n : Nat} {P : Program} {g : Operand} {ps : Array Tmp} {assign body : Code} {Q : Exit → Act → World → Prop} {a : Act} {w : World}
    (hro : F.round = none) (h1 : 1 ≤ n) {gf : Nat} {lb : Array Value} (hg : a.eval g = .func (.func gf) #[] lb) (hFg : F.fn gf) (eg : ∀ args w, (callFunc gf args).run P w = .ok (.enter gf args) w)
    {enc : α → Value} {xs : List α} {nb : Nat} (hnb : nb < w.heap.size) {n0 : Nat} (hn0 : n0 ≤ w.heap.size)
    (hseq : ∀ (l : Nat) (J : List α → World → Prop) (W : World), Below w.heap.size w W → (∀ s A v, J s A → J s (A.setCell ⟨nb, 0, none⟩ v)) →
      (∀ pre x A, J pre A → pre ++ [x] <+: xs → YieldAt F (n - 1 - 1) P l #[enc x] A fun e A' => e = .returned (.bool true) ∧ J (pre ++ [x]) A' ∧ Below n0 A A') →
      J [] W → CallsIn F (n - 1) P gf (#[.func (.yield l) #[] #[]] ++ lb) W fun e W' => (∃ v, e = .returned v) ∧ J xs W')
    (hps : ps.size = 1) (I : List α → World → Prop) (hIset : ∀ s A v, I s A → I s (A.setCell ⟨nb, 0, none⟩ v))
    (hIput : ∀ s A l o o', I s A → w.heap.size ≤ l → A.heap[l]? = some o → o.isCells = false → I s (A.putObj l o')) (hIalloc : ∀ s A o, I s A → I s (A.alloc o)) (h0 : I [] w) (a₁ : α → Act)
    (hassign : ∀ (l : Nat) (x : α) (W : World) (K : Act → World → Prop), K (a₁ x) W →
      assign.wpIn (F.inRound l) (n - 1 - 1) P (Exit.then K (fun _ _ _ => False)) { tmps := (ps.zip #[enc x]).foldl (fun t (p, v) => t.setIfInBounds p v) a.tmps, defers := [] } W)
    (hbody : ∀ (l : Nat) (pre : List α) (x : α) (W : World), I pre W → pre ++ [x] <+: xs → body.wpIn (F.inRound l) (n - 1 - 1) P
      (cellPost n0 (I (pre ++ [x])) W) (a₁ x) W)
    (hdone : ∀ (D : Nat) (W : World), w.heap.size ≤ D → I xs W → W.heap[D]? = some (.deferred (some [])) → Q .normal { a with defers := { target := .collected D, args := #[] } :: a.defers } W) :
    (Code.rangeFunc g ps assign body).wpIn F n P Q a w := by
  refine wpIn_rangeFunc ?_
  intro fn hfn
  rw [hro]
  obtain ⟨rec, hrec⟩ : ∃ rec : LoopState → Option Code → Loop, rec = fun st pe => { state := st, pending := pe, fn, tmps := a.tmps, params := ps, assign, body, defers := w.heap.size } := ⟨_, rfl⟩
  obtain ⟨W1, hW1⟩ : ∃ W1, (w.alloc (.deferred (some []))).alloc (.loop (rec .ready none)) = W1 := ⟨_, rfl⟩
  have hL1 : W1.heap[w.heap.size + 1]? = some (.loop (rec .ready none)) := by
    rw [← hW1]; have := World.alloc_heap_new (w.alloc (.deferred (some []))) (.loop (rec .ready none)); rwa [World.size_alloc] at this
  have hK1 : W1.heap[w.heap.size]? = some (.deferred (some [])) := by
    rw [← hW1]; exact (Below.heap_alloc _ _ _ (by simp)).trans (World.alloc_heap_new w _)
  have hI1 : I [] W1 := by rw [← hW1]; exact hIalloc _ _ _ (hIalloc _ _ _ h0)
  have hb1 : Below w.heap.size w W1 := by
    rw [← hW1]; exact ((Below.refl _ w).alloc (Nat.le_refl _) _).alloc (by simp) _
  have hother : ∀ (A : World) (v : Value) (k : Nat), w.heap.size ≤ k → (A.setCell ⟨nb, 0, none⟩ v).heap[k]? = A.heap[k]? := fun A v k hk => Below.heap_setCell A ⟨nb, 0, none⟩ v k (by simp; omega)
  refine ⟨w.heap.size + 1, [{ target := .collected w.heap.size, args := #[] }], W1, { target := .fn (.func gf) lb, args := #[.func (.yield (w.heap.size + 1)) #[] #[]] }, W1, gf,
    #[.func (.yield (w.heap.size + 1)) #[] #[]] ++ lb, W1, ?_, ?_, ?_, ?_, fun _ => h1, ?_⟩
  · rw [← hW1, hrec]; exact run_enterLoop_outer _ _ _ _ _
  · simp only [resolve, hg]
    simp [go_sem]
  · intro f' hf'; simp [Target.leads] at hf'; subst hf'; exact hFg
  · simp [invoke, go_sem, eg]
  · refine (hseq (w.heap.size + 1)
      (fun pre W => I pre W ∧ W.heap[w.heap.size + 1]? = some (.loop (rec .ready none)) ∧ W.heap[w.heap.size]? = some (.deferred (some [])))
      W1 hb1 (fun s A v hs => ⟨hIset s A v hs.1, (hother A v _ (by omega)).trans hs.2.1, (hother A v _ (Nat.le_refl _)).trans hs.2.2⟩) ?_ ⟨hI1, hL1, hK1⟩).mono ?_
    · rintro pre x W ⟨hi, hl, hk⟩ hlen
      have hlt : w.heap.size + 1 < W.heap.size := (Array.getElem?_eq_some_iff.1 hl).1
      have hy := run_yield (P := P) (args := #[enc x]) hl (by rw [hrec]; simp [hps])
      rw [hrec] at hy
      refine ⟨fn, _, assign, body, hy, roundIn_of_wpIn hfn (hassign _ x W _ ⟨_, run_beginRound hl (by rw [hrec]), ?_⟩)⟩
      have hl2 : (W.putObj (w.heap.size + 1) (.loop { rec .ready none with state := .busy })).heap[w.heap.size + 1]? = some (.loop { rec .ready none with state := .busy }) := World.putObj_heap_same hlt
      have hk2 : (W.putObj (w.heap.size + 1) (.loop { rec .ready none with state := .busy })).heap[w.heap.size]? = some (.deferred (some [])) := (World.putObj_heap_other (by omega)).trans hk
      have hb2 : Below n0 W (W.putObj (w.heap.size + 1) (.loop { rec .ready none with state := .busy })) := belowK_b (w := w) hn0 W _ _ _ (by omega) hl rfl rfl
      refine wpIn_mono (hbody _ pre x _ (hIput _ _ _ _ _ hi (by omega) hl rfl) hlen) ?_
      rintro e a3 W3 hp
      cases e with
      | normal =>
        obtain ⟨hk3, hb3, hi3⟩ := hp
        have hl3 := hk3.same _ _ hl2 rfl
        have hend := run_endRound (P := P) none hl3
        refine ⟨_, _, hend, rfl, ⟨hIput _ _ _ _ _ hi3 (by omega) hl3 rfl, ?_, ?_⟩, (hb2.trans hb3).trans (belowK_b (w := w) hn0 W3 _ _ _ (by omega) hl3 rfl rfl)⟩
        · rw [hrec] at hl3 ⊢
          exact World.putObj_heap_same (Array.getElem?_eq_some_iff.1 hl3).1
        · exact (World.putObj_heap_other (by omega)).trans (hk3.same _ _ hk2 rfl)
      | ret => exact hp.elim
      | exit id => exact hp.elim
      | goto t => exact hp.elim
      | panic ch => exact hp.elim
      | outgrown => exact hp.elim
    · rintro e W2 ⟨⟨v, rfl⟩, hi, hl, hk⟩
      exact ⟨none, _, by have := run_endLoop (P := P) hl (by rw [hrec]; simp); rw [hrec] at this; exact this, hdone _ _ (Nat.le_refl _) (hIput _ _ _ _ _ hi (by omega) hl rfl) ((World.putObj_heap_other (by omega)).trans hk)⟩
theorem or_all : ∀ r : Fin 256, bits .or .u8 (r.1 : Int) 128 = ((r.1 % 128 + 128 : Nat) : Int) := by decide +kernel
theorem or_byte (m : Nat) : bits .or .u8 ((m : Int) % 256) 128 = ((m % 128 + 128 : Nat) : Int) := by
  have h := or_all ⟨m % 256, Nat.mod_lt _ (by decide)⟩
  simp only at h
  rw [show ((m : Int) % 256) = ((m % 256 : Nat) : Int) from by omega, h]
  congr 1
  omega
theorem putL_head {N m : Nat} {pre : List Nat} (h : putL N = pre ++ putL m) (h1 : ¬ m < 128) : putL N = (pre ++ [m % 128 + 128]) ++ putL (m / 128) := by
  rw [h, putL_ge h1, List.append_assoc]; rfl
set_option maxRecDepth 100000 in
set_option maxHeartbeats 1000000 in
theorem cdigits1_in (F : Fence) (n : Nat) (hF : F.fn 108) (hro : F.round = none) (hn : 1 ≤ n) (l nb n0 : Nat) (J : List Nat → World → Prop) (W : World) (N : Nat) (hN : N < 18446744073709551616)
    (hJ : ∀ (s : List Nat) (A : World) (v : Value), J s A → J s (A.setCell ⟨nb, 0, none⟩ v))
    (hY : ∀ (pre : List Nat) (x : Nat) (A : World), J pre A → pre ++ [x] <+: putL N → YieldAt F (n - 1) Try.prog l #[.int .u8 (x : Int)] A fun e A' => e = .returned (.bool true) ∧ J (pre ++ [x]) A' ∧ Below n0 A A')
    (hnb : nb < n0) (hc : W.cell? ⟨nb, 0, none⟩ = some (.int .u64 (N : Int))) (hf : W.frozen? ⟨nb, 0, none⟩ = false) (h0 : J [] W) :
    CallsIn F n Try.prog 108 (#[.func (.yield l) #[] #[]] ++ #[.pointer (some ⟨nb, 0, none⟩)]) W fun e W' => (∃ v, e = .returned v) ∧ J (putL N) W' := by
  have HJ := Lib.hid hJ
  have HY := Lib.hid hY
  clear hJ hY
  refine callsIn_of_wp Try.func108 rfl hF ?_ hro
  simp only [Try.ntmps108, List.size_toArray, List.length_cons, List.length_nil, Nat.reduceAdd, Nat.reduceSub, Array.replicate_succ, Array.replicate_zero, List.push_toArray, List.append_toArray, List.nil_append, List.cons_append]
  gi_wp2
  gi_loopw [3] (fun _ wr => ∃ (pre : List Nat) (m : Nat), Hid (putL N = pre ++ putL m) ∧ m < 18446744073709551616 ∧ wr.cell? ⟨nb, 0, none⟩ = some (.int .u64 (m : Int)) ∧ wr.frozen? ⟨nb, 0, none⟩ = false ∧ J pre wr)
    (fun _ wr => match wr.cell? ⟨nb, 0, none⟩ with | some (.int _ m) => m.toNat | _ => 0)
  case atStart => exact ⟨[], N, Lib.hid rfl, hN, hc, hf, h0⟩
  case round =>
    obtain ⟨pre, m, hp, hm, hc, hf, hj⟩ := hrel
    by_cases h1 : m < 128
    · have h2 : ¬ (128 : Int) ≤ (m : Int) := by omega
      have h3 : pre ++ [m] = putL N := by rw [hp.out, putL_lt h1]
      obtain ⟨fn, tmps, assign, body, hy, hR⟩ := HY.out pre m wr hj (by rw [h3]; exact List.prefix_rfl)
      have HR := Lib.hid hR
      have H3 := Lib.hid h3
      clear hR h3 hp
      gi_wp2
      refine HR.out.mono ?_
      rintro e W3 ⟨rfl, hj3, hk3⟩
      rw [H3.out] at hj3
      gi_wp2
      go_end0
      exact ⟨⟨_, rfl⟩, hj3⟩
    · have h2 : (128 : Int) ≤ (m : Int) := by omega
      have h3 := putL_head hp.out h1
      have hq := HY.out pre (m % 128 + 128) wr hj (by rw [h3]; exact List.prefix_append _ _)
      rw [← or_byte] at hq
      obtain ⟨fn, tmps, assign, body, hy, hR⟩ := hq
      have HR := Lib.hid hR
      have H3 := Lib.hid h3
      have HM := Lib.hid (And.intro h1 hm)
      clear hR h3 hp
      gi_wp2
      refine HR.out.mono ?_
      rintro e W3 ⟨rfl, hj3, hk3⟩
      have hc3 : W3.cell? ⟨nb, 0, none⟩ = some (.int .u64 (m : Int)) := (hk3.cell (p := ⟨nb, 0, none⟩) hnb).trans hc
      have hf3 : W3.frozen? ⟨nb, 0, none⟩ = false := (hk3.frozen (p := ⟨nb, 0, none⟩) hnb).trans hf
      gi_wp2
      go_roundw
      case rel => exact ⟨pre ++ [m % 128 + 128], m / 128, H3, by omega, by simp [go_sem, hc3], by simp [go_sem, hf3], HJ.out _ _ _ hj3⟩
      case measure => simp [go_sem, hc3, hc]; omega
/-- what AppendSeq's box holds -/
def AppI (n0 : Nat) (w : World) (t e : TypeId) (xs : List Value) (W : World) : Prop := (∃ v, Boxed W w.heap.size t v ∧ W.ownsRow w.heap.size e 1 v xs.length xs) ∧ Below n0 w W
theorem u8_info : (Try.prog.info? 5).map (fun i => (i.zero, i.size, i.bytes)) = some (some (.int .u8 0), 1, 1) := by kernel_rfl
/-- bytes, as cells -/
def by_ (l : List Nat) : List Value := l.map fun (x : Nat) => Value.int .u8 (x : Int)
theorem by_snoc (l : List Nat) (x : Nat) : by_ l ++ [Value.int .u8 (x : Int)] = by_ (l ++ [x]) := by simp [by_]
theorem by_len (l : List Nat) : (by_ l).length = l.length := by simp [by_]
set_option maxRecDepth 100000 in
set_option maxHeartbeats 2000000 in
theorem cAppendSeq_any (nb N : Nat) (hN : N < 18446744073709551616) (n0 : Nat) (w : World) (hn0 : n0 ≤ nb) (hnb : nb < w.heap.size) (hc : w.cell? ⟨nb, 0, none⟩ = some (.int .u64 (N : Int))) (hf : w.frozen? ⟨nb, 0, none⟩ = false) :
    Calls Try.prog 107 #[.slice none 0 0, .func (.func 108) #[] #[.pointer (some ⟨nb, 0, none⟩)]] w fun e W' => ∃ v, e = .returned v ∧ W'.ownsRow w.heap.size 5 1 v (putL N).length (by_ (putL N)) ∧ Below n0 w W' := by
  obtain ⟨i0, hi, hz0, hz1, hz2⟩ := info_parts u8_info
  have hlen : (putL N).length ≤ 10 := putL_len N 9 (by omega)
  refine (callsIn_wide (n := 5)).1 ?_
  refine callsIn_of_wp_marks Try.func107 rfl trivial ?_ rfl
  simp only [Try.ntmps107, List.size_toArray, List.length_cons, List.length_nil, Nat.reduceAdd, Nat.reduceSub, Array.replicate_succ, Array.replicate_zero, List.push_toArray, List.append_toArray, List.nil_append, List.cons_append]
  gi_wp2
  have bO := Boxed.new w 56 (.slice none 0 0)
  have hB0 : Below n0 w (w.alloc (.cells #[.slice none 0 0] 56)) := (Below.refl _ w).alloc (by omega) _
  have hB1 : Below w.heap.size w (w.alloc (.cells #[.slice none 0 0] 56)) := (Below.refl _ w).alloc (Nat.le_refl _) _
  have hc1 := (hB1.cell (p := ⟨nb, 0, none⟩) hnb).trans hc
  have hf1 := (hB1.frozen (p := ⟨nb, 0, none⟩) hnb).trans hf
  refine rangeFunc_cell rfl (by decide) (gf := 108) (lb := #[.pointer (some ⟨nb, 0, none⟩)]) rfl trivial (enters_of Try.func108 (by kernel_rfl) rfl) (enc := fun x : Nat => Value.int .u8 (x : Int)) (xs := putL N) (nb := nb) (by simp; omega) (n0 := w.heap.size) (by simp)
    (fun l J W hW hJ hY h0 => cdigits1_in _ _ trivial rfl (by decide) l nb w.heap.size J W N hN hJ hY hnb ((hW.cell (p := ⟨nb, 0, none⟩) (by simp; omega)).trans hc1) ((hW.frozen (p := ⟨nb, 0, none⟩) (by simp; omega)).trans hf1) h0)
    rfl
    (fun pre W => AppI n0 w 56 5 (by_ pre) W)
    (fun s A v hs => ?_) (fun s A l o o' hs hl ho hnc => ?_) (fun s A o hs => ?_)
    ⟨⟨_, bO, World.ownsRow_nil _ _ _ _⟩, hB0⟩
    (fun x => { tmps := #[.slice none 0 0, .func (.func 108) #[] #[.pointer (some ⟨nb, 0, none⟩)], .pointer (some ⟨w.heap.size, 0, none⟩), undef, .slice none 0 0, .int .u8 (x : Int), .func (.func 108) #[] #[.pointer (some ⟨nb, 0, none⟩)], .int .u8 (x : Int), undef, undef, undef, undef, undef], defers := [] }) ?assign ?body ?done
  case assign =>
    intro l x W K hK
    gi_wp2
    exact hK
  case body =>
    rintro l pre x W ⟨⟨v, hv, hrow⟩, hB⟩ hpre
    have hc := hv.cell
    rw [by_len] at hrow
    have hpl : pre.length < 10 := by
      have := hpre.length_le
      simp at this
      omega
    have hWs : w.heap.size ≤ W.heap.size := by have := hv.lt; omega
    gi_wp2_with (gi_at_builtin; refine wpListIn_append_own _ rfl _ _ 56 rfl w.heap.size 5 i0 (.int .u8 0) 1 1 Try.underlying56 hi hz0 hz1 hz2 rfl (by decide) _ _ _ rfl (hrow.alloc _) ⟨W.heap.size, 0, none⟩ 1 1 [.int .u8 (x : Int)] rfl rfl (cell_one_new _ _ _) (by simp [Value.oneCell']) (by simp [maxLen]; omega) (by omega) (by simp; omega) ?_; intro v' w1 hown' hgrow _; obtain ⟨g', cap', rfl⟩ := ownsRow_succ hown'; obtain ⟨hv1, hv2, hr2, hk2, hb2⟩ := hv.appended (by decide) hrow hWs (Nat.le_refl _) hown' hgrow; have hc1 := hv1.cell; have hf1 := hv1.frozen)
    rw [by_snoc] at hr2
    exact ⟨hk2, hb2, ⟨_, hv2, by simpa [by_len] using hr2⟩, hB.trans (hb2.mono (by omega))⟩
  case done =>
    rintro D W hD ⟨⟨v, hv, hrow⟩, hB⟩ hK
    rw [by_len] at hrow
    have hc := hv.cell
    gi_wp2
    refine ⟨by simp, .inl ⟨_, _, rfl, run_takeDeferred hK, ?_⟩⟩
    exact ⟨_, results_tmp rfl _ _ _, v, rfl, ownsRow_putObj hrow _ hK rfl, hB.trans (belowK_b (w := w) (by omega) W D _ _ (by simp at hD; omega) hK rfl rfl)⟩
  · obtain ⟨⟨v', hv, hrow⟩, hB⟩ := hs
    refine ⟨⟨v', hv.kept (grownBy_setCell' A nb v) (by simp; omega), ?_⟩, hB.setCell (p := ⟨nb, 0, none⟩) hn0 _⟩
    exact ownsRow_setCell_below hrow hnb _
  · obtain ⟨⟨v', hv, hrow⟩, hB⟩ := hs
    refine ⟨⟨v', hv.kept (grownBy_putObj' A l o') (by simp at hl ⊢; omega), ownsRow_putObj hrow _ ho hnc⟩, hB.grown (grownBy_putObj' A l o') (by have := hB.size; omega) (fun k e => by cases e; simp at hl; omega)⟩
  · obtain ⟨⟨v', hv, hrow⟩, hB⟩ := hs
    exact ⟨⟨v', hv.alloc _, hrow.alloc _⟩, hB.alloc (by have := hB.size; omega) _⟩
theorem cCollect_any (nb N : Nat) (hN : N < 18446744073709551616) (n0 : Nat) (w : World) (hn0 : n0 ≤ nb) (hnb : nb < w.heap.size) (hc : w.cell? ⟨nb, 0, none⟩ = some (.int .u64 (N : Int))) (hf : w.frozen? ⟨nb, 0, none⟩ = false) :
    Calls Try.prog 102 #[.func (.func 108) #[] #[.pointer (some ⟨nb, 0, none⟩)]] w fun e W' => ∃ v, e = .returned v ∧ W'.ownsRow n0 5 1 v (putL N).length (by_ (putL N)) ∧ Below n0 w W' := by
  have C := Lib.hid (cAppendSeq_any nb N hN n0 w hn0 hnb hc hf)
  have hbs : n0 ≤ w.heap.size := by omega
  clear hc hf hnb hn0
  go_enter Try.func102, Try.ntmps102
  go_wp2_with fail
  refine C.out.mono ?_
  rintro e w2 ⟨v, rfl, h1, h2⟩
  have H := Lib.hid (show ∃ v', Ending.returned v = .returned v' ∧ w2.ownsRow n0 5 1 v' (putL N).length (by_ (putL N)) ∧ Below n0 w w2 from ⟨v, rfl, World.ownsRow.mono h1 hbs, h2⟩)
  clear h1 h2 C
  go_wp2_with fail
  go_ret
  exact H.out
theorem cdigits_any (N : Int) (w : World) :
    Calls Try.prog 103 #[.int .u64 N] w fun e w' => e = .returned (.func (.func 108) #[] #[.pointer (some ⟨w.heap.size, 0, none⟩)]) ∧ w' = w.alloc (.cells #[.int .u64 N] 25) := by
  have hmf : ∀ (fn : Fn) (first cap : Array Value) (w : World), (Instr.makeFunc fn first cap).run Try.prog w = .ok (.func fn first cap) w := fun _ _ _ _ => rfl
  go_enter Try.func103, Try.ntmps103
  go_wp2
  go_ret
  exact ⟨rfl, rfl⟩
/-- bytes handed back: new memory; nothing that was there has turned -/
def ByRet (l : List Nat) (w : World) (e : Ending) (w' : World) : Prop := ∃ v, e = .returned v ∧ w'.ownsRow w.heap.size 5 1 v l.length (by_ l) ∧ Ext w w'
theorem cPut_any (N : Nat) (hN : N < 18446744073709551616) (w : World) : Calls Try.prog 84 #[.int .u64 (N : Int)] w (ByRet (putL N) w) := by
  go_enter Try.func84, Try.ntmps84
  go_wp2_with fail
  refine (cdigits_any _ _).mono ?_
  rintro e w1 ⟨rfl, rfl⟩
  go_wp2_with fail
  refine (cCollect_any w.heap.size N hN w.heap.size _ (Nat.le_refl _) (by simp) (by simp [go_sem]) (by simp [go_sem])).mono ?_
  rintro e w2 ⟨v, rfl, h1, h2⟩
  have H := Lib.hid (show ByRet (putL N) w (.returned v) w2 from ⟨v, rfl, h1, Below.trans ((Below.refl _ w).alloc (Nat.le_refl _) _) h2⟩)
  clear h1 h2
  go_wp2_with fail
  go_ret
  exact H.out
end Go.Proofs.Ytnbeejgppooamaa
