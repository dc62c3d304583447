/- What the law Qby rests on, part 1 of 8: Ext, Mem, Put, Mem2, Open, Writer, Number, Has, Own, Held, Held2, Rec, Rec4, AppB, ListEnt, Reader, Stamp1, StampC. Conditions stand in each lemma. -/
import Derived.WalkKit
import Derived.Deep.QuietTactic
import Derived.Deep.Draws
import Derived.Laws.OwnMore
import Derived.Laws.AppendOwn
import Derived.OwnWalk
import Derived.RangeFuncBox
import Derived.RangeFuncLeaves
import Derived.Shelf.Abstract
import Derived.OwnWalkIn
import Derived.TacticsInMore
import Derived.LoopNIn
import Derived.LoopIn
import Derived.Maps.AppendAt
import Derived.Test.YtnbeejgppooamaaGreatRows
import Derived.Lib.Hide
import Derived.Deep.Onto
import Derived.ProofKit
import Derived.ChangeOld
import Derived.OpenShut
import Derived.Deep.Slices
import Derived.BigQuiet
import Derived.IntWalk
import Derived.Lib.SliceRun
import Derived.Deep.LoopGhost
import Derived.WalkSpells
import Derived.WalkLawsBesides
import Derived.Deep.RegionHeld3
import Derived.Lib.SmallJoins
import Derived.ArgAppend
import Derived.Test.YtnbeejgppooamaaGreatShelf
import Derived.Test.YtnbeejgppooamaaGreatDivNorm
import Derived.Deep.DeepCutAuto
import Derived.Deep.CutBlock
import Derived.Shelf.Spec.BitsCarry
import Derived.Test.YtnbeejgppooamaaGreatFixRefMath
import Derived.Test.YtnbeejgppooamaaGreatFixDivideMath
import Derived.WalkMore
import Derived.Laws.StructEq
import Derived.Laws.BytesArg
set_option linter.unusedVariables false
set_option linter.unusedSimpArgs false
namespace Go.Proofs.YtnbeejgppooamaaGreat
section
open Go.RowKit
/-- what a call that writes nothing that was there leaves: new blocks and draws alone -/
def Ext (w w' : World) : Prop := Below w.heap.size w w'
section
variable {a b c w w' : World}
theorem Ext.refl (w : World) : Ext w w := Below.refl _ _
theorem Ext.size (h : Ext a b) : a.heap.size ≤ b.heap.size := Below.size h
theorem Ext.trans (h : Ext a b) (k : Ext b c) : Ext a c := Below.trans h (Below.mono k (Ext.size h))
theorem Ext.drew (h : Ext a w) : Ext a w.drew := Below.drew h
theorem below_drewN {B : Nat} (h : Below B a w) (n : Nat) : Below B a (w.drewN n) := ⟨h.os, h.tape, h.output, h.size, h.block⟩
theorem Ext.drewN (h : Ext a w) (n : Nat) : Ext a (w.drewN n) := below_drewN h n
theorem Ext.alloc (h : Ext a w) (o : Obj) : Ext a (w.alloc o) := Below.alloc h (Ext.size h) o
theorem Ext.setCell (h : Ext a w) {p : Addr} (hp : a.heap.size ≤ p.block) (u : Value) : Ext a (w.setCell p u) := Below.setCell h hp u
theorem Ext.grown (h : Ext a w) {row : Option Nat} (hg : w.grownBy w' row) (hr : ∀ k, row = some k → a.heap.size ≤ k) : Ext a w' := Below.grown h hg (Ext.size h) hr
theorem Ext.cells (h : Ext a b) : (∀ k o, k < a.heap.size → b.cell? ⟨k, o, none⟩ = a.cell? ⟨k, o, none⟩) ∧ (∀ k o, k < a.heap.size → b.frozen? ⟨k, o, none⟩ = a.frozen? ⟨k, o, none⟩) :=
  ⟨fun k o hk => Below.cell h (p := ⟨k, o, none⟩) hk, fun k o hk => Below.frozen h (p := ⟨k, o, none⟩) hk⟩
theorem Ext.cell (h : Ext a b) {p : Addr} (hp : p.block < a.heap.size) : b.cell? p = a.cell? p := Below.cell h hp
theorem Ext.toGrown (h : Ext a b) : Below a.heap.size a b := h
end

/-- a contract in which the callee only draws -/
def Drw (w w' : World) : Prop := ∃ n, w' = w.drewN n
theorem Drw.ext {w w' : World} (h : Drw w w') : Ext w w' := by
  obtain ⟨n, rfl⟩ := h
  exact (Ext.refl w).drewN n

theorem Drw.refl (w : World) : Drw w w := ⟨0, rfl⟩
theorem Drw.drewN {a w : World} (h : Drw a w) (n : Nat) : Drw a (w.drewN n) := by
  obtain ⟨m, rfl⟩ := h
  exact ⟨m + n, World.drewN_drewN _ _ _⟩
theorem Drw.trans {a b c : World} (h : Drw a b) (k : Drw b c) : Drw a c := by
  obtain ⟨n, rfl⟩ := k
  exact h.drewN n
theorem num_eq {k : IntKind} {a b : Int} (h : a = b) : Value.int k a = .int k b := by rw [h]
theorem ret_int {k : IntKind} {a b : Int} (h : a = b) : Ending.returned (.int k a) = .returned (.int k b) := by rw [h]
theorem ret_bool {a b : Bool} (h : a = b) : Ending.returned (.bool a) = .returned (.bool b) := by rw [h]
theorem ret_two {k l : IntKind} {a b c d : Int} (h : a = c) (h' : b = d) : Ending.returned (.tuple #[.int k a, .int l b]) = .returned (.tuple #[.int k c, .int l d]) := by rw [h, h']
end
section
open Go.RowKit
theorem addr_add (b o j : Nat) : (⟨b, o, none⟩ : Addr).add j = ⟨b, o + j, none⟩ := by unfold Addr.add; split <;> simp_all
/-- the slice value v, of n elements of sz cells each, reads as the cells xs -/
def Sl (w : World) (sz : Nat) (A : Option Addr) (n c : Nat) (xs : List Value) : Prop :=
  xs.length = n * sz ∧ n ≤ c ∧ c ≤ maxLen ∧ (0 < n → ∃ b o, A = some ⟨b, o, none⟩ ∧ b < w.heap.size ∧ ∀ j u, xs[j]? = some u → w.cell? ⟨b, o + j, none⟩ = some u)
section
variable {w w' : World} {sz n c : Nat} {A : Option Addr} {xs : List Value}
theorem Sl.nil (w : World) (sz : Nat) : Sl w sz none 0 0 [] := ⟨by simp, Nat.le_refl _, by simp [maxLen], fun h => absurd h (by omega)⟩
theorem Sl.len (h : Sl w sz A n c xs) : xs.length = n * sz := h.1
theorem Sl.small (h : Sl w sz A n c xs) : n ≤ 9223372036854775807 := by have h1 := h.2.1; have h2 := h.2.2.1; simp [maxLen] at h2; omega
theorem Sl.at_ (h : Sl w sz A n c xs) (hn : 0 < n) : ∃ b o, A = some ⟨b, o, none⟩ ∧ b < w.heap.size ∧ ∀ j u, xs[j]? = some u → w.cell? ⟨b, o + j, none⟩ = some u := h.2.2.2 hn
theorem Sl.keep (h : Sl w sz A n c xs) (hs : w.heap.size ≤ w'.heap.size) (hk : ∀ b o, b < w.heap.size → w'.cell? ⟨b, o, none⟩ = w.cell? ⟨b, o, none⟩) : Sl w' sz A n c xs :=
  ⟨h.1, h.2.1, h.2.2.1, fun hn => by
    obtain ⟨b, o, e, hb, hc⟩ := h.2.2.2 hn
    exact ⟨b, o, e, by omega, fun j u hu => (hk _ _ hb).trans (hc j u hu)⟩⟩
theorem Sl.ext (h : Sl w sz A n c xs) (hx : Ext w w') : Sl w' sz A n c xs := h.keep hx.size fun b o hb => hx.cells.1 b o hb
theorem Sl.take (h : Sl w sz A n c xs) {m : Nat} (hm : m ≤ n) : Sl w sz A m c (xs.take (m * sz)) := by
  refine ⟨?_, by have := h.2.1; omega, h.2.2.1, fun hn => ?_⟩
  · rw [List.length_take, h.1]
    exact Nat.min_eq_left (Nat.mul_le_mul_right _ hm)
  · obtain ⟨b, o, e, hb, hc⟩ := h.2.2.2 (by omega)
    refine ⟨b, o, e, hb, fun j u hu => hc j u ?_⟩
    rw [List.getElem?_take] at hu
    split at hu
    · exact hu
    · cases hu
theorem Sl.drop (h : Sl w sz A n c xs) {k : Nat} (hk : k ≤ n) : Sl w sz (if c = k then A else A.map (·.add (k * sz))) (n - k) (c - k) (xs.drop (k * sz)) := by
  refine ⟨?_, by have := h.2.1; omega, by have := h.2.2.1; omega, fun hn => ?_⟩
  · rw [List.length_drop, h.1, Nat.sub_mul]
  · obtain ⟨b, o, rfl, hb, hc⟩ := h.2.2.2 (by omega)
    have := h.2.1
    rw [if_neg (by omega)]
    refine ⟨b, o + k * sz, by simp [addr_add], hb, fun j u hu => ?_⟩
    rw [List.getElem?_drop] at hu
    rw [Nat.add_assoc]
    exact hc _ u hu
theorem Sl.own {base : Nat} {e : TypeId} (h : w.ownsRow base e sz (.slice A n c) n xs) : Sl w sz A n c xs := by
  rcases h.2 with ⟨h', rfl⟩ | ⟨g, cap, cur, h', _, hg, hnc, hcm, hcs, htake⟩
  · injection h' with h1 h2 h3
    subst h1; subst h3
    exact ⟨h.1, Nat.le_refl _, by simp [maxLen], fun hn => absurd hn (by omega)⟩
  · injection h' with h1 h2 h3
    subst h1; subst h3
    refine ⟨h.1, hnc, hcm, fun hn => ⟨g, 0, rfl, (Array.getElem?_eq_some_iff.1 hg).1, fun j u hu => ?_⟩⟩
    rw [Nat.zero_add, cell_of_row w g j cur e (0, 0) hg]
    rw [← htake, List.getElem?_take] at hu
    split at hu
    · simpa using hu
    · cases hu
theorem Sl.drop0 (h : Sl w sz A 0 c xs) : xs = [] := List.eq_nil_of_length_eq_zero (by simpa using h.1)
end
/-- an owned slice, its parts -/
theorem own_parts {w : World} {base : Nat} {e : TypeId} {sz n : Nat} {v : Value} {xs : List Value} (h : w.ownsRow base e sz v n xs) : ∃ A c, v = .slice A n c ∧ Sl w sz A n c xs := by
  rcases h.2 with ⟨rfl, rfl⟩ | ⟨g, cap, cur, rfl, rest⟩
  · exact ⟨_, _, rfl, Sl.own h⟩
  · exact ⟨_, _, rfl, Sl.own h⟩

/-- integers of one kind, as cells -/
def iv (k : IntKind) (l : List Int) : List Value := l.map (Value.int k)
theorem iv_len (k : IntKind) (l : List Int) : (iv k l).length = l.length := List.length_map _
theorem iv_get (k : IntKind) (l : List Int) (j : Nat) (h : j < l.length) : (iv k l)[j]? = some (.int k (l.getD j 0)) := by
  unfold iv
  rw [List.getElem?_map, List.getD_eq_getElem?_getD, List.getElem?_eq_getElem h]
  rfl
/-- the cell of an element -/
theorem Sl.cell {w : World} {A : Option Addr} {n c : Nat} {k : IntKind} {l : List Int} (h : Sl w 1 A n c (iv k l)) {j : Nat} (hj : j < n) :
    ∃ b o, A = some ⟨b, o, none⟩ ∧ b < w.heap.size ∧ ∀ j, j < n → w.cell? ⟨b, o + j, none⟩ = some (.int k (l.getD j 0)) := by
  obtain ⟨b, o, e, hb, hc⟩ := h.at_ (by omega)
  have hl := h.len
  rw [iv_len] at hl
  exact ⟨b, o, e, hb, fun j hj => hc j _ (iv_get k l j (by omega))⟩
theorem Sl.ilen {w : World} {A : Option Addr} {n c : Nat} {k : IntKind} {l : List Int} (h : Sl w 1 A n c (iv k l)) : l.length = n := by
  have := h.len; rw [iv_len] at this; omega
/-- append of one element that the operation itself has just laid: the new slice is owned, nothing below 'base' has turned -/
theorem wpList_append_new {P : Program} (w : World) {ops : Array Oper} {rest : List Oper} {o : Oper} {a : Act} {Q : Exit → Act → World → Prop} (hgd : o.guard = none) (s x : Operand) (t : TypeId)
    (ho : o.op = .call { callee := .builtin .append, args := #[s, x], argTypes := #[t, t] })
    (base : Nat) (e : TypeId) (i : TypeInfo) (z : Value) (size bytes : Nat) (ht : P.underlying t = some (.slice e)) (hi : P.info? e = some i) (hz : i.zero = some z)
    (hsize : i.size = size) (hby : i.bytes = bytes) (hzs : z.cells.size = size) (hsz : 0 < size)
    (v : Value) (n : Nat) (xs : List Value) (hs : a.eval s = v) (hown : w.ownsRow base e size v n xs) (news : Array Value) (c : Nat)
    (hx : a.eval x = .slice (some ⟨w.heap.size, 0, none⟩) 1 c) (hl : news.size = size) (h1 : ∀ u ∈ news.toList, u.oneCell' = true)
    (hn : n < 1099511627776) (hb128 : bytes ≤ 127) (hbase : base ≤ w.heap.size)
    (h : ∀ v' w', w'.ownsRow base e size v' (n + 1) (xs ++ news.toList) → Below base w w' → wpList P ops Q rest (a.put o.dst v') w') :
    wpList P ops Q (o :: rest) a (w.alloc (.cells news e)) := by
  have hcells : ∀ j u, news.toList[j]? = some u → (w.alloc (.cells news e)).cell? ((⟨w.heap.size, 0, none⟩ : Addr).add j) = some u := by
    intro j u hu
    rw [addr_add, Nat.zero_add, cell_of_row _ _ j news e (0, 0) (heap_alloc_new w _)]
    simpa using hu
  have hby2 : (n + 1) * bytes ≤ 140737488355328 := by
    have : (n + 1) * bytes ≤ 1099511627776 * 127 := Nat.mul_le_mul (by omega) hb128
    omega
  refine wpList_append_own (w.alloc (.cells news e)) hgd s x t ho base e i z size bytes ht hi hz hsize hby hzs hsz v n xs hs (hown.alloc _) ⟨w.heap.size, 0, none⟩ 1 c news.toList hx (by simpa using hl) hcells h1
    (by simp [maxLen]; omega) hby2 (by simp; omega) ?_
  intro v' w' h2 h3 h4
  refine h v' w' h2 ?_
  exact ((Below.refl base w).alloc hbase _).grown h3 (by simp; omega) (fun k hk => (hown.lt k hk).1)
theorem Ext.below {a w w' : World} (h : Ext a w) (k : Below a.heap.size w w') : Ext a w' := Below.trans h k
end
section
open Go.RowKit Go.Shelf
attribute [local go_sem] Oper.semAt_some

/-- a number's bytes -/
def putL (n : Nat) : List Nat := if h : n < 128 then [n] else (n % 128 + 128) :: putL (n / 128)
termination_by n
decreasing_by omega
theorem putL_lt {n : Nat} (h : n < 128) : putL n = [n] := by rw [putL, dif_pos h]
theorem putL_ge {n : Nat} (h : ¬ n < 128) : putL n = (n % 128 + 128) :: putL (n / 128) := by rw [putL, dif_neg h]
theorem putL_len (n : Nat) : ∀ k, n < 2 ^ (7 * (k + 1)) → (putL n).length ≤ k + 1 := by
  intro k
  induction k generalizing n with
  | zero => intro h; rw [putL_lt (by simpa using h)]; simp
  | succ k ih =>
    intro h
    by_cases h1 : n < 128
    · rw [putL_lt h1]; simp
    · rw [putL_ge h1, List.length_cons]
      have : n / 128 < 2 ^ (7 * (k + 1)) := by
        rw [Nat.div_lt_iff_lt_mul (by decide)]
        have e : 2 ^ (7 * (k + 1 + 1)) = 2 ^ (7 * (k + 1)) * 128 := by
          rw [show 7 * (k + 1 + 1) = 7 * (k + 1) + 7 from by omega, Nat.pow_add]
        omega
      have := ih (n / 128) this
      omega

/-- how a round's body is left: off its end -/
def cellPost (n0 : Nat) (J : World → Prop) (W : World) : Exit → Act → World → Prop
  | .normal, _, W' => KeepsOthers W W' ∧ Below n0 W W' ∧ J W'
  | _, _, _ => False
/-- A range over a function that keeps a variable of its own in a cell (block nb, captured), and whose rounds never leave. The iterator's contract is asked for what abides a store into that cell. -/
theorem rangeFunc_cell {α : Type} {F : Fence} {n : Nat} {P : Program} {g : Operand} {ps : Array Tmp} {assign body : Code} {Q : Exit → Act → World → Prop} {a : Act} {w : World}
    (hro : F.round = none) (h1 : 1 ≤ n) {gf : Nat} {lb : Array Value} (hg : a.eval g = .func (.func gf) #[] lb) (hFg : F.fn gf) (eg : ∀ args w, (callFunc gf args).run P w = .ok (.enter gf args) w)
    {enc : α → Value} {xs : List α} {nb : Nat} (hnb : nb < w.heap.size) {n0 : Nat} (hn0 : n0 ≤ w.heap.size)
    (hseq : ∀ (l : Nat) (J : List α → World → Prop) (W : World), Below w.heap.size w W → (∀ s A v, J s A → J s (A.setCell ⟨nb, 0, none⟩ v)) →
      (∀ pre x A, J pre A → pre ++ [x] <+: xs → YieldAt F (n - 1 - 1) P l #[enc x] A fun e A' => e = .returned (.bool true) ∧ J (pre ++ [x]) A' ∧ Below n0 A A') →
      J [] W → CallsIn F (n - 1) P gf (#[.func (.yield l) #[] #[]] ++ lb) W fun e W' => (∃ v, e = .returned v) ∧ J xs W')
    (hps : ps.size = 1) (I : List α → World → Prop) (hIset : ∀ s A v, I s A → I s (A.setCell ⟨nb, 0, none⟩ v))
    (hIput : ∀ s A l o o', I s A → w.heap.size ≤ l → A.heap[l]? = some o → o.isCells = false → I s (A.putObj l o')) (hIalloc : ∀ s A o, I s A → I s (A.alloc o)) (h0 : I [] w) (a₁ : α → Act)
    (hassign : ∀ (l : Nat) (x : α) (W : World) (K : Act → World → Prop), K (a₁ x) W →
      assign.wpIn (F.inRound l) (n - 1 - 1) P (Exit.then K (fun _ _ _ => False)) { tmps := (ps.zip #[enc x]).foldl (fun t (p, v) => t.setIfInBounds p v) a.tmps, defers := [] } W)
    (hbody : ∀ (l : Nat) (pre : List α) (x : α) (W : World), I pre W → pre ++ [x] <+: xs → body.wpIn (F.inRound l) (n - 1 - 1) P
      (cellPost n0 (I (pre ++ [x])) W) (a₁ x) W)
    (hdone : ∀ (D : Nat) (W : World), w.heap.size ≤ D → I xs W → W.heap[D]? = some (.deferred (some [])) → Q .normal { a with defers := { target := .collected D, args := #[] } :: a.defers } W) :
    (Code.rangeFunc g ps assign body).wpIn F n P Q a w := by
  refine wpIn_rangeFunc ?_
  intro fn hfn
  rw [hro]
  obtain ⟨rec, hrec⟩ : ∃ rec : LoopState → Option Code → Loop, rec = fun st pe => { state := st, pending := pe, fn, tmps := a.tmps, params := ps, assign, body, defers := w.heap.size } := ⟨_, rfl⟩
  obtain ⟨W1, hW1⟩ : ∃ W1, (w.alloc (.deferred (some []))).alloc (.loop (rec .ready none)) = W1 := ⟨_, rfl⟩
  have hL1 : W1.heap[w.heap.size + 1]? = some (.loop (rec .ready none)) := by
    rw [← hW1]; have := World.alloc_heap_new (w.alloc (.deferred (some []))) (.loop (rec .ready none)); rwa [World.size_alloc] at this
  have hK1 : W1.heap[w.heap.size]? = some (.deferred (some [])) := by
    rw [← hW1]; exact (Below.heap_alloc _ _ _ (by simp)).trans (World.alloc_heap_new w _)
  have hI1 : I [] W1 := by rw [← hW1]; exact hIalloc _ _ _ (hIalloc _ _ _ h0)
  have hb1 : Below w.heap.size w W1 := by
    rw [← hW1]; exact ((Below.refl _ w).alloc (Nat.le_refl _) _).alloc (by simp) _
  have hother : ∀ (A : World) (v : Value) (k : Nat), w.heap.size ≤ k → (A.setCell ⟨nb, 0, none⟩ v).heap[k]? = A.heap[k]? := fun A v k hk => Below.heap_setCell A ⟨nb, 0, none⟩ v k (by simp; omega)
  refine ⟨w.heap.size + 1, [{ target := .collected w.heap.size, args := #[] }], W1, { target := .fn (.func gf) lb, args := #[.func (.yield (w.heap.size + 1)) #[] #[]] }, W1, gf,
    #[.func (.yield (w.heap.size + 1)) #[] #[]] ++ lb, W1, ?_, ?_, ?_, ?_, fun _ => h1, ?_⟩
  · rw [← hW1, hrec]; exact run_enterLoop_outer _ _ _ _ _
  · simp only [resolve, hg]
    simp [go_sem]
  · intro f' hf'; simp [Target.leads] at hf'; subst hf'; exact hFg
  · simp [invoke, go_sem, eg]
  · refine (hseq (w.heap.size + 1)
      (fun pre W => I pre W ∧ W.heap[w.heap.size + 1]? = some (.loop (rec .ready none)) ∧ W.heap[w.heap.size]? = some (.deferred (some [])))
      W1 hb1 (fun s A v hs => ⟨hIset s A v hs.1, (hother A v _ (by omega)).trans hs.2.1, (hother A v _ (Nat.le_refl _)).trans hs.2.2⟩) ?_ ⟨hI1, hL1, hK1⟩).mono ?_
    · rintro pre x W ⟨hi, hl, hk⟩ hlen
      have hlt : w.heap.size + 1 < W.heap.size := (Array.getElem?_eq_some_iff.1 hl).1
      have hy := run_yield (P := P) (args := #[enc x]) hl (by rw [hrec]; simp [hps])
      rw [hrec] at hy
      refine ⟨fn, _, assign, body, hy, roundIn_of_wpIn hfn (hassign _ x W _ ⟨_, run_beginRound hl (by rw [hrec]), ?_⟩)⟩
      have hl2 : (W.putObj (w.heap.size + 1) (.loop { rec .ready none with state := .busy })).heap[w.heap.size + 1]? = some (.loop { rec .ready none with state := .busy }) := World.putObj_heap_same hlt
      have hk2 : (W.putObj (w.heap.size + 1) (.loop { rec .ready none with state := .busy })).heap[w.heap.size]? = some (.deferred (some [])) := (World.putObj_heap_other (by omega)).trans hk
      have hb2 : Below n0 W (W.putObj (w.heap.size + 1) (.loop { rec .ready none with state := .busy })) := belowK_b (w := w) hn0 W _ _ _ (by omega) hl rfl rfl
      refine wpIn_mono (hbody _ pre x _ (hIput _ _ _ _ _ hi (by omega) hl rfl) hlen) ?_
      rintro e a3 W3 hp
      cases e with
      | normal =>
        obtain ⟨hk3, hb3, hi3⟩ := hp
        have hl3 := hk3.same _ _ hl2 rfl
        have hend := run_endRound (P := P) none hl3
        refine ⟨_, _, hend, rfl, ⟨hIput _ _ _ _ _ hi3 (by omega) hl3 rfl, ?_, ?_⟩, (hb2.trans hb3).trans (belowK_b (w := w) hn0 W3 _ _ _ (by omega) hl3 rfl rfl)⟩
        · rw [hrec] at hl3 ⊢
          exact World.putObj_heap_same (Array.getElem?_eq_some_iff.1 hl3).1
        · exact (World.putObj_heap_other (by omega)).trans (hk3.same _ _ hk2 rfl)
      | ret => exact hp.elim
      | exit id => exact hp.elim
      | goto t => exact hp.elim
      | panic ch => exact hp.elim
      | outgrown => exact hp.elim
    · rintro e W2 ⟨⟨v, rfl⟩, hi, hl, hk⟩
      exact ⟨none, _, by have := run_endLoop (P := P) hl (by rw [hrec]; simp); rw [hrec] at this; exact this, hdone _ _ (Nat.le_refl _) (hIput _ _ _ _ _ hi (by omega) hl rfl) ((World.putObj_heap_other (by omega)).trans hk)⟩
theorem or_all : ∀ r : Fin 256, bits .or .u8 (r.1 : Int) 128 = ((r.1 % 128 + 128 : Nat) : Int) := by decide +kernel
theorem or_byte (m : Nat) : bits .or .u8 ((m : Int) % 256) 128 = ((m % 128 + 128 : Nat) : Int) := by
  have h := or_all ⟨m % 256, Nat.mod_lt _ (by decide)⟩
  simp only at h
  rw [show ((m : Int) % 256) = ((m % 256 : Nat) : Int) from by omega, h]
  congr 1
  omega
theorem putL_head {N m : Nat} {pre : List Nat} (h : putL N = pre ++ putL m) (h1 : ¬ m < 128) : putL N = (pre ++ [m % 128 + 128]) ++ putL (m / 128) := by
  rw [h, putL_ge h1, List.append_assoc]; rfl
set_option maxRecDepth 100000 in
set_option maxHeartbeats 1000000 in
theorem cdigits1_in (F : Fence) (n : Nat) (hF : F.fn 96) (hro : F.round = none) (hn : 1 ≤ n) (l nb n0 : Nat) (J : List Nat → World → Prop) (W : World) (N : Nat) (hN : N < 18446744073709551616)
    (hJ : ∀ (s : List Nat) (A : World) (v : Value), J s A → J s (A.setCell ⟨nb, 0, none⟩ v))
    (hY : ∀ (pre : List Nat) (x : Nat) (A : World), J pre A → pre ++ [x] <+: putL N → YieldAt F (n - 1) Tryz.prog l #[.int .u8 (x : Int)] A fun e A' => e = .returned (.bool true) ∧ J (pre ++ [x]) A' ∧ Below n0 A A')
    (hnb : nb < n0) (hc : W.cell? ⟨nb, 0, none⟩ = some (.int .u64 (N : Int))) (hf : W.frozen? ⟨nb, 0, none⟩ = false) (h0 : J [] W) :
    CallsIn F n Tryz.prog 96 (#[.func (.yield l) #[] #[]] ++ #[.pointer (some ⟨nb, 0, none⟩)]) W fun e W' => (∃ v, e = .returned v) ∧ J (putL N) W' := by
  have HJ := Lib.hid hJ
  have HY := Lib.hid hY
  clear hJ hY
  refine callsIn_of_wp Tryz.func96 rfl hF ?_ hro
  simp only [Tryz.ntmps96, List.size_toArray, List.length_cons, List.length_nil, Nat.reduceAdd, Nat.reduceSub, Array.replicate_succ, Array.replicate_zero, List.push_toArray, List.append_toArray, List.nil_append, List.cons_append]
  gi_wp2
  gi_loopw [3] (fun _ wr => ∃ (pre : List Nat) (m : Nat), Hid (putL N = pre ++ putL m) ∧ m < 18446744073709551616 ∧ wr.cell? ⟨nb, 0, none⟩ = some (.int .u64 (m : Int)) ∧ wr.frozen? ⟨nb, 0, none⟩ = false ∧ J pre wr)
    (fun _ wr => match wr.cell? ⟨nb, 0, none⟩ with | some (.int _ m) => m.toNat | _ => 0)
  case atStart => exact ⟨[], N, Lib.hid rfl, hN, hc, hf, h0⟩
  case round =>
    obtain ⟨pre, m, hp, hm, hc, hf, hj⟩ := hrel
    by_cases h1 : m < 128
    · have h2 : ¬ (128 : Int) ≤ (m : Int) := by omega
      have h3 : pre ++ [m] = putL N := by rw [hp.out, putL_lt h1]
      obtain ⟨fn, tmps, assign, body, hy, hR⟩ := HY.out pre m wr hj (by rw [h3]; exact List.prefix_rfl)
      have HR := Lib.hid hR
      have H3 := Lib.hid h3
      clear hR h3 hp
      gi_wp2
      refine HR.out.mono ?_
      rintro e W3 ⟨rfl, hj3, hk3⟩
      rw [H3.out] at hj3
      gi_wp2
      go_end0
      exact ⟨⟨_, rfl⟩, hj3⟩
    · have h2 : (128 : Int) ≤ (m : Int) := by omega
      have h3 := putL_head hp.out h1
      have hq := HY.out pre (m % 128 + 128) wr hj (by rw [h3]; exact List.prefix_append _ _)
      rw [← or_byte] at hq
      obtain ⟨fn, tmps, assign, body, hy, hR⟩ := hq
      have HR := Lib.hid hR
      have H3 := Lib.hid h3
      have HM := Lib.hid (And.intro h1 hm)
      clear hR h3 hp
      gi_wp2
      refine HR.out.mono ?_
      rintro e W3 ⟨rfl, hj3, hk3⟩
      have hc3 : W3.cell? ⟨nb, 0, none⟩ = some (.int .u64 (m : Int)) := (hk3.cell (p := ⟨nb, 0, none⟩) hnb).trans hc
      have hf3 : W3.frozen? ⟨nb, 0, none⟩ = false := (hk3.frozen (p := ⟨nb, 0, none⟩) hnb).trans hf
      gi_wp2
      go_roundw
      case rel => exact ⟨pre ++ [m % 128 + 128], m / 128, H3, by omega, by simp [go_sem, hc3], by simp [go_sem, hf3], HJ.out _ _ _ hj3⟩
      case measure => simp [go_sem, hc3, hc]; omega
/-- what AppendSeq's box holds -/
def AppI (n0 : Nat) (w : World) (t e : TypeId) (xs : List Value) (W : World) : Prop := (∃ v, Boxed W w.heap.size t v ∧ W.ownsRow w.heap.size e 1 v xs.length xs) ∧ Below n0 w W
theorem u8_info : (Tryz.prog.info? 5).map (fun i => (i.zero, i.size, i.bytes)) = some (some (.int .u8 0), 1, 1) := by kernel_rfl
/-- bytes, as cells -/
def by_ (l : List Nat) : List Value := l.map fun (x : Nat) => Value.int .u8 (x : Int)
theorem by_snoc (l : List Nat) (x : Nat) : by_ l ++ [Value.int .u8 (x : Int)] = by_ (l ++ [x]) := by simp [by_]
theorem by_len (l : List Nat) : (by_ l).length = l.length := by simp [by_]
set_option maxRecDepth 100000 in
set_option maxHeartbeats 2000000 in
theorem cAppendSeq_any (nb N : Nat) (hN : N < 18446744073709551616) (n0 : Nat) (w : World) (hn0 : n0 ≤ nb) (hnb : nb < w.heap.size) (hc : w.cell? ⟨nb, 0, none⟩ = some (.int .u64 (N : Int))) (hf : w.frozen? ⟨nb, 0, none⟩ = false) :
    Calls Tryz.prog 95 #[.slice none 0 0, .func (.func 96) #[] #[.pointer (some ⟨nb, 0, none⟩)]] w fun e W' => ∃ v, e = .returned v ∧ W'.ownsRow w.heap.size 5 1 v (putL N).length (by_ (putL N)) ∧ Below n0 w W' := by
  obtain ⟨i0, hi, hz0, hz1, hz2⟩ := info_parts u8_info
  have hlen : (putL N).length ≤ 10 := putL_len N 9 (by omega)
  refine (callsIn_wide (n := 5)).1 ?_
  refine callsIn_of_wp_marks Tryz.func95 rfl trivial ?_ rfl
  simp only [Tryz.ntmps95, List.size_toArray, List.length_cons, List.length_nil, Nat.reduceAdd, Nat.reduceSub, Array.replicate_succ, Array.replicate_zero, List.push_toArray, List.append_toArray, List.nil_append, List.cons_append]
  gi_wp2
  have bO := Boxed.new w 23 (.slice none 0 0)
  have hB0 : Below n0 w (w.alloc (.cells #[.slice none 0 0] 23)) := (Below.refl _ w).alloc (by omega) _
  have hB1 : Below w.heap.size w (w.alloc (.cells #[.slice none 0 0] 23)) := (Below.refl _ w).alloc (Nat.le_refl _) _
  have hc1 := (hB1.cell (p := ⟨nb, 0, none⟩) hnb).trans hc
  have hf1 := (hB1.frozen (p := ⟨nb, 0, none⟩) hnb).trans hf
  refine rangeFunc_cell rfl (by decide) (gf := 96) (lb := #[.pointer (some ⟨nb, 0, none⟩)]) rfl trivial (enters_of Tryz.func96 (by kernel_rfl) rfl) (enc := fun x : Nat => Value.int .u8 (x : Int)) (xs := putL N) (nb := nb) (by simp; omega) (n0 := w.heap.size) (by simp)
    (fun l J W hW hJ hY h0 => cdigits1_in _ _ trivial rfl (by decide) l nb w.heap.size J W N hN hJ hY hnb ((hW.cell (p := ⟨nb, 0, none⟩) (by simp; omega)).trans hc1) ((hW.frozen (p := ⟨nb, 0, none⟩) (by simp; omega)).trans hf1) h0)
    rfl
    (fun pre W => AppI n0 w 23 5 (by_ pre) W)
    (fun s A v hs => ?_) (fun s A l o o' hs hl ho hnc => ?_) (fun s A o hs => ?_)
    ⟨⟨_, bO, World.ownsRow_nil _ _ _ _⟩, hB0⟩
    (fun x => { tmps := #[.slice none 0 0, .func (.func 96) #[] #[.pointer (some ⟨nb, 0, none⟩)], .pointer (some ⟨w.heap.size, 0, none⟩), undef, .slice none 0 0, .int .u8 (x : Int), .func (.func 96) #[] #[.pointer (some ⟨nb, 0, none⟩)], .int .u8 (x : Int), undef, undef, undef, undef, undef], defers := [] }) ?assign ?body ?done
  case assign =>
    intro l x W K hK
    gi_wp2
    exact hK
  case body =>
    rintro l pre x W ⟨⟨v, hv, hrow⟩, hB⟩ hpre
    have hc := hv.cell
    rw [by_len] at hrow
    have hpl : pre.length < 10 := by
      have := hpre.length_le
      simp at this
      omega
    have hWs : w.heap.size ≤ W.heap.size := by have := hv.lt; omega
    gi_wp2_with (gi_at_builtin; refine wpListIn_append_own _ rfl _ _ 23 rfl w.heap.size 5 i0 (.int .u8 0) 1 1 Tryz.underlying23 hi hz0 hz1 hz2 rfl (by decide) _ _ _ rfl (hrow.alloc _) ⟨W.heap.size, 0, none⟩ 1 1 [.int .u8 (x : Int)] rfl rfl (cell_one_new _ _ _) (by simp [Value.oneCell']) (by simp [maxLen]; omega) (by omega) (by simp; omega) ?_; intro v' w1 hown' hgrow _; obtain ⟨g', cap', rfl⟩ := ownsRow_succ hown'; obtain ⟨hv1, hv2, hr2, hk2, hb2⟩ := hv.appended (by decide) hrow hWs (Nat.le_refl _) hown' hgrow; have hc1 := hv1.cell; have hf1 := hv1.frozen)
    rw [by_snoc] at hr2
    exact ⟨hk2, hb2, ⟨_, hv2, by simpa [by_len] using hr2⟩, hB.trans (hb2.mono (by omega))⟩
  case done =>
    rintro D W hD ⟨⟨v, hv, hrow⟩, hB⟩ hK
    rw [by_len] at hrow
    have hc := hv.cell
    gi_wp2
    refine ⟨by simp, .inl ⟨_, _, rfl, run_takeDeferred hK, ?_⟩⟩
    exact ⟨_, results_tmp rfl _ _ _, v, rfl, ownsRow_putObj hrow _ hK rfl, hB.trans (belowK_b (w := w) (by omega) W D _ _ (by simp at hD; omega) hK rfl rfl)⟩
  · obtain ⟨⟨v', hv, hrow⟩, hB⟩ := hs
    refine ⟨⟨v', hv.kept (grownBy_setCell' A nb v) (by simp; omega), ?_⟩, hB.setCell (p := ⟨nb, 0, none⟩) hn0 _⟩
    exact ownsRow_setCell_below hrow hnb _
  · obtain ⟨⟨v', hv, hrow⟩, hB⟩ := hs
    refine ⟨⟨v', hv.kept (grownBy_putObj' A l o') (by simp at hl ⊢; omega), ownsRow_putObj hrow _ ho hnc⟩, hB.grown (grownBy_putObj' A l o') (by have := hB.size; omega) (fun k e => by cases e; simp at hl; omega)⟩
  · obtain ⟨⟨v', hv, hrow⟩, hB⟩ := hs
    exact ⟨⟨v', hv.alloc _, hrow.alloc _⟩, hB.alloc (by have := hB.size; omega) _⟩
theorem cCollect_any (nb N : Nat) (hN : N < 18446744073709551616) (n0 : Nat) (w : World) (hn0 : n0 ≤ nb) (hnb : nb < w.heap.size) (hc : w.cell? ⟨nb, 0, none⟩ = some (.int .u64 (N : Int))) (hf : w.frozen? ⟨nb, 0, none⟩ = false) :
    Calls Tryz.prog 88 #[.func (.func 96) #[] #[.pointer (some ⟨nb, 0, none⟩)]] w fun e W' => ∃ v, e = .returned v ∧ W'.ownsRow n0 5 1 v (putL N).length (by_ (putL N)) ∧ Below n0 w W' := by
  have C := Lib.hid (cAppendSeq_any nb N hN n0 w hn0 hnb hc hf)
  have hbs : n0 ≤ w.heap.size := by omega
  clear hc hf hnb hn0
  go_enter Tryz.func88, Tryz.ntmps88
  go_wp2_with fail
  refine C.out.mono ?_
  rintro e w2 ⟨v, rfl, h1, h2⟩
  have H := Lib.hid (show ∃ v', Ending.returned v = .returned v' ∧ w2.ownsRow n0 5 1 v' (putL N).length (by_ (putL N)) ∧ Below n0 w w2 from ⟨v, rfl, World.ownsRow.mono h1 hbs, h2⟩)
  clear h1 h2 C
  go_wp2_with fail
  go_ret
  exact H.out
theorem cdigits_any (N : Int) (w : World) :
    Calls Tryz.prog 89 #[.int .u64 N] w fun e w' => e = .returned (.func (.func 96) #[] #[.pointer (some ⟨w.heap.size, 0, none⟩)]) ∧ w' = w.alloc (.cells #[.int .u64 N] 39) := by
  have hmf : ∀ (fn : Fn) (first cap : Array Value) (w : World), (Instr.makeFunc fn first cap).run Tryz.prog w = .ok (.func fn first cap) w := fun _ _ _ _ => rfl
  go_enter Tryz.func89, Tryz.ntmps89
  go_wp2
  go_ret
  exact ⟨rfl, rfl⟩
/-- bytes handed back: new memory; nothing that was there has turned -/
def ByRet (l : List Nat) (w : World) (e : Ending) (w' : World) : Prop := ∃ v, e = .returned v ∧ w'.ownsRow w.heap.size 5 1 v l.length (by_ l) ∧ Ext w w'
theorem cPut_any (N : Nat) (hN : N < 18446744073709551616) (w : World) : Calls Tryz.prog 61 #[.int .u64 (N : Int)] w (ByRet (putL N) w) := by
  go_enter Tryz.func61, Tryz.ntmps61
  go_wp2_with fail
  refine (cdigits_any _ _).mono ?_
  rintro e w1 ⟨rfl, rfl⟩
  go_wp2_with fail
  refine (cCollect_any w.heap.size N hN w.heap.size _ (Nat.le_refl _) (by simp) (by simp [go_sem]) (by simp [go_sem])).mono ?_
  rintro e w2 ⟨v, rfl, h1, h2⟩
  have H := Lib.hid (show ByRet (putL N) w (.returned v) w2 from ⟨v, rfl, h1, Below.trans ((Below.refl _ w).alloc (Nat.le_refl _) _) h2⟩)
  clear h1 h2
  go_wp2_with fail
  go_ret
  exact H.out
end
section
open Go.RowKit
theorem run_append_none {P : Program} (w : World) (base : Nat) (t ty e : TypeId) (i : TypeInfo) (size : Nat) (ht : P.underlying t = some (.slice e)) (hi : P.info? e = some i)
    (v : Value) (n : Nat) (xs : List Value) (hown : w.ownsRow base e size v n xs) (c : Nat) : (Builtin.append_ #[t, t] ty #[v, .slice none 0 c]).run P w = .ok v w := by
  rcases hown.2 with ⟨rfl, rfl⟩ | ⟨g, cap, cur, rfl, _, _, hnc, _⟩
  · simp [Builtin.append_, run_underlying ht, sizeOf, typeInfo, hi, Builtin.lenOf, Builtin.firstCells]
  · simp [Builtin.append_, run_underlying ht, sizeOf, typeInfo, hi, Builtin.lenOf, Builtin.firstCells, hnc, storeCells]

/-- append of a slice that reads as cells onto an owned slice: owned anew, nothing below 'base' has turned -/
theorem wpList_append_sl {P : Program} (w : World) {ops : Array Oper} {rest : List Oper} {o : Oper} {a : Act} {Q : Exit → Act → World → Prop} (hgd : o.guard = none) (s x : Operand) (t : TypeId)
    (ho : o.op = .call { callee := .builtin .append, args := #[s, x], argTypes := #[t, t] })
    (base : Nat) (e : TypeId) (i : TypeInfo) (z : Value) (size bytes : Nat) (ht : P.underlying t = some (.slice e)) (hi : P.info? e = some i) (hz : i.zero = some z)
    (hsize : i.size = size) (hby : i.bytes = bytes) (hzs : z.cells.size = size) (hsz : 0 < size)
    (v : Value) (n : Nat) (xs : List Value) (hs : a.eval s = v) (hown : w.ownsRow base e size v n xs) (A : Option Addr) (m c : Nat) (news : List Value)
    (hx : a.eval x = .slice A m c) (hS : Sl w size A m c news) (h1 : ∀ u ∈ news, u.oneCell' = true)
    (hn : n + m < 1099511627776) (hb128 : bytes ≤ 127) (hbase : base ≤ w.heap.size)
    (h : ∀ v' w', w'.ownsRow base e size v' (n + m) (xs ++ news) → Below base w w' → wpList P ops Q rest (a.put o.dst v') w') :
    wpList P ops Q (o :: rest) a w := by
  have hby2 : (n + m) * bytes ≤ 140737488355328 := by
    have : (n + m) * bytes ≤ 1099511627776 * 127 := Nat.mul_le_mul (by omega) hb128
    omega
  rcases A with _ | ad
  · have hm : m = 0 := by
      rcases Nat.eq_zero_or_pos m with h0 | h0
      · exact h0
      · obtain ⟨_, _, hh, _⟩ := hS.at_ h0
        cases hh
    subst hm
    have hnw : news = [] := hS.drop0
    subst hnw
    have hrun := run_append_none (P := P) w base t o.type e i size ht hi v n xs hown c
    have hk := h v w (by simpa using hown) (Below.refl _ _)
    refine wpList_plain hgd fun K hK => ?_
    unfold Oper.wp execOp
    simp only [ho, resolve, invoke, builtin, Sem.run_bind, Sem.run_pure, Result.andThen_ok, List.map_toArray, List.map_cons, List.map_nil, hs, hx, hrun]
    exact hK _ _ hk
  · have hcells : ∀ j u, news[j]? = some u → w.cell? (ad.add j) = some u := by
      intro j u hu
      rcases Nat.eq_zero_or_pos m with h0 | h0
      · subst h0
        rw [hS.drop0] at hu
        simp at hu
      · obtain ⟨b, o', hh, _, hc⟩ := hS.at_ h0
        injection hh with hh
        subst hh
        rw [addr_add]
        exact hc j u hu
    refine wpList_append_own w hgd s x t ho base e i z size bytes ht hi hz hsize hby hzs hsz v n xs hs hown ad m c news hx hS.len hcells h1
      (by simp [maxLen]; omega) hby2 hbase ?_
    intro v' w' h2 h3 h4
    exact h v' w' h2 ((Below.refl base w).grown h3 hbase (fun k hk => (hown.lt k hk).1))

/-- a slice that was just laid -/
theorem sl_new (w : World) (e : TypeId) (sz : Nat) (cs : Array Value) (n : Nat) (h : cs.size = n * sz) (hn : n ≤ 1000000) : Sl (w.alloc (.cells cs e)) sz (some ⟨w.heap.size, 0, none⟩) n n cs.toList := by
  refine ⟨by simpa using h, Nat.le_refl _, by simp [maxLen]; omega, fun _ => ⟨w.heap.size, 0, rfl, by simp, fun j u hu => ?_⟩⟩
  rw [Nat.zero_add, cell_of_row _ _ j cs e (0, 0) (heap_alloc_new w _)]
  simpa using hu
theorem own_empty (w : World) (e : TypeId) (sz : Nat) : (w.alloc (.cells #[] e)).ownsRow w.heap.size e sz (.slice (some ⟨w.heap.size, 0, none⟩) 0 0) 0 [] :=
  World.ownsRow_lit w #[] 0 (Nat.le_refl _) (by simp [maxLen]) (by simp)
end
section
open Go.RowKit Go.ChangeShapes Go.WideShapes
/-- the number fits its kind -/
def Fits (k : IntKind) (x : Int) : Prop := (Lit.int k x).wf = true
theorem Fits.u64 {x : Int} (h : Fits .u64 x) : 0 ≤ x ∧ x < 18446744073709551616 := by
  have := bounds_u64 (n := x) h
  omega
theorem Fits.i64 {x : Int} (h : Fits .i64 x) : -9223372036854775808 ≤ x ∧ x ≤ 9223372036854775807 := bounds_i64 (n := x) h

section
variable {H : Type} {enc : TypeId × Value → H} {P : Program} {w : World} {base : Nat} {spare : Nat → Bool} {held : Bool}
/-- a slice that came in, its cells, and how each element reads -/
theorem open_raw {t e : TypeId} {sz fuel n c : Nat} {A : Option Addr} {x : DataW H × List MemPlace} (ht : P.underlying t = some (.slice e)) (hsz : P.cellsOf e = sz) (hpos : 0 < sz)
    (h : DataW.trod enc P w base spare held fuel t [.slice A n c] = some x) :
    ∃ xs : List Value, Sl w sz A n c xs ∧ ∀ i, i < n → ∃ m y, DataW.trod enc P w base spare held m e ((xs.drop (i * sz)).take sz) = some y := by
  rcases Go.Deep.open_slice ht h with ⟨h0, _⟩ | ⟨a, len, cap, m, n', D, Pl, hcs, _, hl, hm, hmm, _, hi⟩
  · simp at h0
    obtain ⟨rfl, rfl, rfl⟩ := h0
    exact ⟨[], Sl.nil _ _, fun i hi => absurd hi (by omega)⟩
  · simp at hcs
    obtain ⟨rfl, rfl, rfl⟩ := hcs
    subst hsz
    have hnm : n ≤ m := by rw [hmm]; split <;> omega
    -- the cells, one by one
    have hcell : ∀ i, i < n → ∀ j, j < P.cellsOf e → ∃ v, w.cell? (a.add (i * P.cellsOf e + j)) = some v := by
      intro i hin j hj
      obtain ⟨cs', hc, ht'⟩ := hi i (by omega)
      obtain ⟨_, hcl, hat⟩ := World.cells?_some hc
      refine ⟨cs'[j]'(by omega), ?_⟩
      have := hat j hj
      rw [Go.Deep.add_add] at this
      rw [this, List.getElem?_eq_getElem (by omega)]
    obtain ⟨b, o, spot⟩ := a
    rcases Nat.eq_zero_or_pos n with hn0 | hnp
    · subst hn0
      exact ⟨[], ⟨by simp, by omega, hm, fun h => absurd h (by omega)⟩, fun i hi => absurd hi (by omega)⟩
    · have hspot : spot = none := by
        obtain ⟨v, hv⟩ := hcell 0 hnp 0 hpos
        simpa [Addr.add] using World.cell?_spot hv
      subst hspot
      let f : Nat → Value := fun j => (w.cell? ⟨b, o + j, none⟩).getD undef
      have hf : ∀ j, j < n * P.cellsOf e → w.cell? ⟨b, o + j, none⟩ = some (f j) := by
        intro j hj
        have h1 : j / P.cellsOf e < n := by rw [Nat.div_lt_iff_lt_mul hpos]; exact hj
        obtain ⟨v, hv⟩ := hcell (j / P.cellsOf e) h1 (j % P.cellsOf e) (Nat.mod_lt _ hpos)
        rw [Nat.div_add_mod', addr_add] at hv
        show _ = some ((w.cell? ⟨b, o + j, none⟩).getD undef)
        rw [hv]; rfl
      have hb : b < w.heap.size := by
        have h1 := hf 0 (by exact Nat.mul_pos hnp hpos)
        unfold World.cell? at h1
        rcases hx : w.heap[b]? with _ | ob
        · simp [hx] at h1
        · exact (Array.getElem?_eq_some_iff.1 hx).1
      refine ⟨(List.range (n * P.cellsOf e)).map f, ⟨by simp, by omega, hm, fun _ => ⟨b, o, rfl, hb, fun j u hu => ?_⟩⟩, fun i hin => ?_⟩
      · rw [List.getElem?_map] at hu
        rcases Nat.lt_or_ge j (n * P.cellsOf e) with hj | hj
        · rw [List.getElem?_range hj] at hu
          simp at hu
          rw [hf j hj, hu]
        · rw [List.getElem?_eq_none (by simpa using hj)] at hu
          simp at hu
      · obtain ⟨cs', hc, ht'⟩ := hi i (by omega)
        obtain ⟨_, hcl, hat⟩ := World.cells?_some hc
        have e1 : (((List.range (n * P.cellsOf e)).map f).drop (i * P.cellsOf e)).take (P.cellsOf e) = cs' := by
          apply List.ext_getElem?
          intro j
          rw [List.getElem?_take]
          have hle : (i + 1) * P.cellsOf e ≤ n * P.cellsOf e := Nat.mul_le_mul_right _ hin
          rw [Nat.add_mul, Nat.one_mul] at hle
          split
          · rename_i hj
            rw [List.getElem?_drop, List.getElem?_map, List.getElem?_range (by omega)]
            have h2 := hat j hj
            rw [Go.Deep.add_add, addr_add] at h2
            rw [← h2, hf _ (by omega)]
            rfl
          · rename_i hj
            rw [List.getElem?_eq_none (by omega)]
        exact ⟨n', (D i, Pl i), by rw [e1]; exact ht'⟩
theorem open_sl {t e : TypeId} {k : IntKind} {n c : Nat} {A : Option Addr} {d : DataW H} {p : List MemPlace} (ht : P.underlying t = some (.slice e)) (he : P.underlying e = some (.int k)) (hc : P.cellsOf e = 1)
    (h : DataW.Trod enc P w base spare held t (.slice A n c) d p) (_hlt : ∀ x ∈ p, x.block < w.heap.size) : ∃ l : List Int, Sl w 1 A n c (iv k l) ∧ ∀ x ∈ l, Fits k x := by
  obtain ⟨fuel, hf⟩ := h
  obtain ⟨xs, hs, hr⟩ := open_raw ht hc (by decide) (by simpa [Value.cells] using hf)
  have hlen := hs.len
  rw [Nat.mul_one] at hlen
  have hel : ∀ i (hi : i < xs.length), ∃ z, xs[i] = .int k z ∧ Fits k z := by
    intro i hi
    obtain ⟨m, y, hy⟩ := hr i (by omega)
    rw [Nat.mul_one, List.drop_eq_getElem_cons hi] at hy
    obtain ⟨z, hz, _, hw⟩ := DataW.trod_int he hy
    exact ⟨z, List.head_eq_of_cons_eq (show xs[i] :: [] = _ :: [] from hz), hw⟩
  refine ⟨xs.map (fun v => match v with | .int _ z => z | _ => 0), ?_, ?_⟩
  · have : iv k (xs.map (fun v => match v with | .int _ z => z | _ => 0)) = xs := by
      unfold iv
      rw [List.map_map]
      apply List.ext_getElem
      · simp
      · intro i h1 h2
        obtain ⟨z, hz, _⟩ := hel i h2
        simp [hz]
    rw [this]
    exact hs
  · intro x hx
    rw [List.mem_map] at hx
    obtain ⟨v, hv, rfl⟩ := hx
    obtain ⟨i, hi, rfl⟩ := List.mem_iff_getElem.1 hv
    obtain ⟨z, hz, hw⟩ := hel i hi
    simp only [hz]
    exact hw
end
end
section
open Go.RowKit
/-- a writer lies at block g: its limit, its error, what was written (in a row beyond g) -/
structure Wr (w : World) (g : Nat) (lim err : Int) (L : List Nat) : Prop where
  b : ∃ A c, w.cell? ⟨g, 0, none⟩ = some (.slice A L.length c) ∧ w.ownsRow (g + 1) 5 1 (.slice A L.length c) L.length (by_ L)
  c1 : w.cell? ⟨g, 1, none⟩ = some (.int .i64 lim)
  c2 : w.cell? ⟨g, 2, none⟩ = some (.bool true)
  c3 : w.cell? ⟨g, 3, none⟩ = some (.int .i64 err)
  f0 : w.frozen? ⟨g, 0, none⟩ = false
  f3 : w.frozen? ⟨g, 3, none⟩ = false
  lt : g < w.heap.size
  short : L.length ≤ 1048576
  l0 : 0 ≤ lim
  l1 : lim ≤ 1048576
theorem Wr.keep {w w' : World} {g : Nat} {lim err : Int} {L : List Nat} (h : Wr w g lim err L) (hb : Below w.heap.size w w') : Wr w' g lim err L := by
  obtain ⟨A, c, h0, h1⟩ := h.b
  have cl : ∀ o, w'.cell? ⟨g, o, none⟩ = w.cell? ⟨g, o, none⟩ := fun o => hb.cell (p := ⟨g, o, none⟩) h.lt
  have fl : ∀ o, w'.frozen? ⟨g, o, none⟩ = w.frozen? ⟨g, o, none⟩ := fun o => hb.frozen (p := ⟨g, o, none⟩) h.lt
  have hs := hb.size
  refine ⟨⟨A, c, (cl 0).trans h0, ?_⟩, (cl 1).trans h.c1, (cl 2).trans h.c2, (cl 3).trans h.c3, (fl 0).trans h.f0, (fl 3).trans h.f3, by have := h.lt; omega, h.short, h.l0, h.l1⟩
  refine ⟨h1.1, ?_⟩
  rcases h1.2 with h2 | ⟨q, cap, cur, e, hq, hq2, rest⟩
  · exact .inl h2
  · exact .inr ⟨q, cap, cur, e, hq, (hb.block q (Array.getElem?_eq_some_iff.1 hq2).1).trans hq2, rest⟩
theorem cstate_any (g : Nat) (e : Int) (w : World) (h2 : w.cell? ⟨g, 2, none⟩ = some (.bool true)) (h3 : w.cell? ⟨g, 3, none⟩ = some (.int .i64 e)) :
    Calls Tryz.prog 58 #[.pointer (some ⟨g, 0, none⟩)] w fun r w' => r = .returned (.int .i64 e) ∧ w = w' := by
  go_enter Tryz.func58, Tryz.ntmps58
  go_wp2
  go_ret
  exact ⟨rfl, rfl⟩
theorem cadd_err (g : Nat) (lim e : Int) (L : List Nat) (v : Value) (w : World) (h : Wr w g lim e L) (he : ¬ e = 0) :
    Calls Tryz.prog 60 #[.pointer (some ⟨g, 0, none⟩), v] w fun r w' => r = .returned (.int .i64 e) ∧ w = w' := by
  have H2 := h.c2
  have H3 := h.c3
  have hef : (e == 0) = false := beq_false_of_ne he
  clear h he
  go_enter Tryz.func60, Tryz.ntmps60
  go_wp2_with fail
  refine (cstate_any g e _ H2 H3).mono ?_
  rintro r w1 ⟨rfl, rfl⟩
  go_wp2
  go_ret
  exact ⟨rfl, rfl⟩
theorem Wr.drewN {w : World} {g : Nat} {lim err : Int} {L : List Nat} (h : Wr w g lim err L) (n : Nat) : Wr (w.drewN n) g lim err L := h.keep (below_drewN (Below.refl _ _) n)
theorem Wr.setErr {w : World} {g : Nat} {lim err : Int} {L : List Nat} (h : Wr w g lim err L) (e : Int) : Wr (w.setCell ⟨g, 3, none⟩ (.int .i64 e)) g lim e L := by
  obtain ⟨A, c, h0, h1⟩ := h.b
  have c1 := h.c1
  have c2 := h.c2
  have c3 := h.c3
  have f0 := h.f0
  have f3 := h.f3
  exact ⟨⟨A, c, by simp [go_sem, h0], ownsRow_setCell_below h1 (by simp) _⟩, by simp [go_sem, c1], by simp [go_sem, c2], by simp [go_sem, c3], by simp [go_sem, f0], by simp [go_sem, f3], by simpa using h.lt, h.short, h.l0, h.l1⟩
theorem by_one {l : List Nat} : ∀ u ∈ by_ l, u.oneCell' = true := by
  intro u hu
  unfold by_ at hu
  obtain ⟨x, _, rfl⟩ := List.mem_map.1 hu
  rfl
theorem by_append (a b : List Nat) : by_ a ++ by_ b = by_ (a ++ b) := by simp [by_]
set_option maxHeartbeats 1000000 in
theorem cadd_long (g : Nat) (lim : Int) (L : List Nat) (B : Option Addr) (m d : Nat) (w : World) (h : Wr w g lim 0 L) (hm : m ≤ 1048576) (hl : lim - L.length < m) :
    Calls Tryz.prog 60 #[.pointer (some ⟨g, 0, none⟩), .slice B m d] w fun r w' => r = .returned (.int .i64 4) ∧ Wr w' g lim 4 L ∧ Below g w w' := by
  have H2 := h.c2
  have H3 := h.c3
  obtain ⟨A, c, H0, hown⟩ := h.b
  have H1 := h.c1
  have F3 := h.f3
  have l0 := h.l0
  have l1 := h.l1
  have l2 := h.short
  have HH := Lib.hid h
  have hln : (L.length : Int) ≤ 1048576 := by omega
  have hmn : (m : Int) ≤ 1048576 := by omega
  have e1 : decide (lim - (L.length : Int) < (m : Int)) = true := by simpa using hl
  clear hown h hl
  generalize hLn : L.length = N at *
  replace hLn := Lib.hid hLn
  have eq1 : IntKind.i64.wrap (lim - (N : Int)) = lim - N := IntWalk.i64_in _ (by omega)
  go_enter Tryz.func60, Tryz.ntmps60
  go_wp2_with fail
  refine (cstate_any g 0 _ H2 H3).mono ?_
  rintro r w1 ⟨rfl, rfl⟩
  go_wp2_with fail
  go_quiet (fail)
  go_wp2
  go_ret
  exact ⟨rfl, (HH.out.drewN _).setErr 4, (below_drewN (Below.refl _ _) _).setCell (p := ⟨g, 3, none⟩) (Nat.le_refl _) _⟩
set_option maxHeartbeats 1000000 in
theorem cadd_ok (g : Nat) (lim : Int) (L bl : List Nat) (B : Option Addr) (m d : Nat) (w : World) (h : Wr w g lim 0 L) (hS : Sl w 1 B m d (by_ bl)) (hl : ¬ lim - L.length < m) :
    Calls Tryz.prog 60 #[.pointer (some ⟨g, 0, none⟩), .slice B m d] w fun r w' => r = .returned (.int .i64 0) ∧ Wr w' g lim 0 (L ++ bl) ∧ Below g w w' := by
  obtain ⟨i0, hi, hz0, hz1, hz2⟩ := info_parts u8_info
  have hbm : bl.length = m := by have := hS.len; rw [by_len] at this; omega
  have H2 := h.c2
  have H3 := h.c3
  obtain ⟨A, c, H0, hown⟩ := h.b
  have H1 := h.c1
  have F0 := h.f0
  have l0 := h.l0
  have l1 := h.l1
  have l2 := h.short
  have lt := h.lt
  have HH := Lib.hid h
  have HO := Lib.hid hown
  have HS := Lib.hid hS
  have hln : (L.length : Int) ≤ 1048576 := by omega
  have hmn : (m : Int) ≤ 1048576 := by omega
  have e1 : decide (lim - (L.length : Int) < (m : Int)) = false := decide_eq_false hl
  have hbm := Lib.hid hbm
  have hle : (L.length : Int) + m ≤ lim := by omega
  clear h hown hl hS
  generalize hLn : L.length = N at *
  replace hLn := Lib.hid hLn
  have eq1 : IntKind.i64.wrap (lim - (N : Int)) = lim - N := IntWalk.i64_in _ (by omega)
  go_enter Tryz.func60, Tryz.ntmps60
  go_wp2_with fail
  refine (cstate_any g 0 _ H2 H3).mono ?_
  rintro r w1 ⟨rfl, rfl⟩
  go_wp2_with fail
  go_quiet (fail)
  go_wp2_with (at_builtin; refine wpList_append_sl (w.drewN nq) rfl _ _ 23 rfl (g + 1) 5 i0 (.int .u8 0) 1 1 Tryz.underlying23 hi hz0 hz1 hz2 rfl (by decide) _ N (by_ L) (by rfl) HO.out B m d (by_ bl) (by rfl) (HS.out.ext ((Ext.refl _).drewN _)) by_one (by omega) (by decide) (by simp; omega) ?_; intro v1 w1 hown1 hb1; obtain ⟨A1, c1, rfl, s1⟩ := own_parts hown1; have q0 : w1.cell? ⟨g, 0, none⟩ = some (.slice A N c) := (hb1.cell (p := ⟨g, 0, none⟩) (by simp)).trans H0; have q1 : w1.frozen? ⟨g, 0, none⟩ = false := (hb1.frozen (p := ⟨g, 0, none⟩) (by simp)).trans F0; have HB := Lib.hid hb1; have HW := Lib.hid hown1; clear hb1 hown1 s1)
  go_ret
  refine ⟨rfl, ?_, ?_⟩
  · have hb := HB.out
    have hh := HH.out
    have eL : (L ++ bl).length = N + m := by rw [List.length_append, hLn.out, hbm.out]
    have cl : ∀ o, w1.cell? ⟨g, o, none⟩ = w.cell? ⟨g, o, none⟩ := fun o => hb.cell (p := ⟨g, o, none⟩) (by simp)
    have fl : ∀ o, w1.frozen? ⟨g, o, none⟩ = w.frozen? ⟨g, o, none⟩ := fun o => hb.frozen (p := ⟨g, o, none⟩) (by simp)
    have e0 := cl 0; have e1 := (cl 1).trans hh.c1; have e2 := (cl 2).trans hh.c2; have e3 := (cl 3).trans hh.c3
    have g0 := (fl 0).trans hh.f0; have g3 := (fl 3).trans hh.f3
    have hs := hb.size
    simp at hs
    refine ⟨⟨A1, c1, by rw [eL]; simp [go_sem, q0], ?_⟩, by simp [go_sem, e1], by simp [go_sem, e2], by simp [go_sem, e3], by simp [go_sem, g0], by simp [go_sem, g3], by simp; omega, by rw [eL]; omega, l0, l1⟩
    rw [eL, ← by_append]
    exact ownsRow_setCell_below HW.out (by simp) _
  · have hbg : Below g (w.drewN nq) w1 := HB.out.mono (Nat.le_succ g)
    exact ((below_drewN (Below.refl g w) nq).trans hbg).setCell (p := ⟨g, 0, none⟩) (Nat.le_refl _) _
/-- what an add makes of a writer: error, bytes -/
def wAddE (lim err : Int) (L b : List Nat) : Int := if err = 0 then (if lim - L.length < b.length then 4 else 0) else err
def wAddL (lim err : Int) (L b : List Nat) : List Nat := if wAddE lim err L b = 0 then L ++ b else L
theorem cadd_any (g : Nat) (lim e : Int) (L bl : List Nat) (B : Option Addr) (m d : Nat) (w : World) (h : Wr w g lim e L) (hS : Sl w 1 B m d (by_ bl)) (hm : m ≤ 1048576) :
    Calls Tryz.prog 60 #[.pointer (some ⟨g, 0, none⟩), .slice B m d] w fun r w' => r = .returned (.int .i64 (wAddE lim e L bl)) ∧ Wr w' g lim (wAddE lim e L bl) (wAddL lim e L bl) ∧ Below g w w' := by
  have hbm : bl.length = m := by have := hS.len; rw [by_len] at this; omega
  unfold wAddL wAddE
  rw [hbm]
  by_cases he : e = 0
  · subst he
    rw [if_pos rfl]
    by_cases hl : lim - L.length < m
    · rw [if_pos hl, if_neg (by decide)]
      exact cadd_long g lim L B m d w h hm hl
    · rw [if_neg hl, if_pos rfl]
      exact cadd_ok g lim L bl B m d w h hS hl
  · rw [if_neg he, if_neg he]
    refine (cadd_err g lim e L _ w h he).mono ?_
    rintro r w' ⟨h1, rfl⟩
    exact ⟨h1, h, Below.refl _ _⟩
theorem cWU_any (g : Nat) (lim e : Int) (L : List Nat) (N : Nat) (hN : N < 18446744073709551616) (w : World) (h : Wr w g lim e L) :
    Calls Tryz.prog 23 #[.pointer (some ⟨g, 0, none⟩), .int .u64 (N : Int)] w fun r w' => r = .returned (.int .i64 (wAddE lim e L (putL N))) ∧ Wr w' g lim (wAddE lim e L (putL N)) (wAddL lim e L (putL N)) ∧ Below g w w' := by
  have H := Lib.hid h
  have hp : (putL N).length ≤ 1048576 := by have := putL_len N 9 (by omega); omega
  have HP := Lib.hid hp
  obtain ⟨E, hE⟩ : ∃ E, E = wAddE lim e L (putL N) := ⟨_, rfl⟩
  obtain ⟨M, hM⟩ : ∃ M, M = wAddL lim e L (putL N) := ⟨_, rfl⟩
  rw [← hE, ← hM]
  have HE := Lib.hid (And.intro hE hM)
  clear h hE hM hp
  go_enter Tryz.func23, Tryz.ntmps23
  go_wp2_with fail
  refine (cPut_any N hN _).mono ?_
  rintro r w1 ⟨v, rfl, h1, hx1⟩
  obtain ⟨A1, c1, rfl, s1⟩ := own_parts h1
  have C := cadd_any g lim e L (putL N) A1 (putL N).length c1 w1 (H.out.keep hx1) s1 HP.out
  rw [← HE.out.1, ← HE.out.2] at C
  replace C := Lib.hid C
  have X1 := Lib.hid (And.intro hx1 H.out.lt)
  clear h1 s1 hx1
  go_wp2_with fail
  refine C.out.mono ?_
  rintro r w2 ⟨rfl, hw2, hb2⟩
  have W2 := Lib.hid (And.intro hw2 hb2)
  clear hw2 hb2 C
  go_wp2_with fail
  go_ret
  exact ⟨rfl, W2.out.1, (X1.out.1.mono (by have := X1.out.2; omega)).trans W2.out.2⟩
/-- what 'N' makes of a writer -/
def wNE (lim err : Int) (L : List Nat) (n : Int) : Int := if err = 0 then (if n < 0 then 3 else wAddE lim 0 L (putL n.toNat)) else err
def wNL (lim err : Int) (L : List Nat) (n : Int) : List Nat := if err = 0 then (if n < 0 then L else wAddL lim 0 L (putL n.toNat)) else L
theorem cWN_pos (g : Nat) (lim : Int) (L : List Nat) (N : Nat) (hN : N < 9223372036854775808) (w : World) (h : Wr w g lim 0 L) :
    Calls Tryz.prog 21 #[.pointer (some ⟨g, 0, none⟩), .int .i64 (N : Int)] w fun r w' => r = .returned (.int .i64 (wAddE lim 0 L (putL N))) ∧ Wr w' g lim (wAddE lim 0 L (putL N)) (wAddL lim 0 L (putL N)) ∧ Below g w w' := by
  have H2 := h.c2
  have H3 := h.c3
  have C := Lib.hid (cWU_any g lim 0 L N (by omega) w h)
  have hd : decide (0 ≤ (N : Int)) = true := decide_eq_true (by omega)
  have hN2 : (N : Int) < 9223372036854775808 := by omega
  generalize wAddE lim 0 L (putL N) = E at C
  generalize wAddL lim 0 L (putL N) = M at C
  clear h hN
  go_enter Tryz.func21, Tryz.ntmps21
  go_wp2_with fail
  refine (cstate_any g 0 _ H2 H3).mono ?_
  rintro r w1 ⟨rfl, rfl⟩
  go_wp2_with fail
  refine C.out.mono ?_
  rintro r w2 ⟨rfl, hw2, hb2⟩
  have W2 := Lib.hid (And.intro hw2 hb2)
  clear hw2 hb2 C
  go_wp2_with fail
  go_ret
  exact ⟨rfl, W2.out.1, W2.out.2⟩
set_option maxRecDepth 100000 in
theorem cNewWriter_any (lim : Int) (h0 : 0 ≤ lim) (h1 : lim ≤ 1048576) (w : World) :
    Calls Tryz.prog 20 #[.int .i64 lim] w fun r w' => r = .returned (.tuple #[.pointer (some ⟨w.heap.size, 0, none⟩), .int .i64 0]) ∧ Wr w' w.heap.size lim 0 [] ∧ Ext w w' := by
  have hn : ¬ lim < 0 := by omega
  have hm : ¬ (1048576 : Int) < lim := by omega
  go_enter Tryz.func20, Tryz.ntmps20
  go_wp2
  go_ret2
  exact ⟨rfl, ⟨⟨none, 0, by simp [go_sem], World.ownsRow_nil _ _ _ _⟩, by simp [go_sem], by simp [go_sem], by simp [go_sem], by simp [go_sem], by simp [go_sem], by simp, by simp, h0, h1⟩, (by repeat (first | assumption | exact Ext.refl _ | refine Ext.drew ?_ | refine Ext.drewN ?_ _ | refine Ext.alloc ?_ _ | refine Ext.setCell ?_ (by first | omega | (simp; done) | (simp; omega)) _ | refine Ext.trans ?_ (by assumption)))⟩
set_option maxRecDepth 100000 in
theorem cClone_nil (w : World) :
    Calls Tryz.prog 62 #[.slice none 0 0] w fun r w' => r = .returned (.slice none 0 0) ∧ w = w' := by
  have q22 : ∀ (w : World) (a : Option Addr) (n c n' c' : Nat), (binOp .eql 23 (.slice a n c) (.slice none n' c')).run Tryz.prog w = .ok (.bool a.isNone) w := fun w a n c n' c' => Go.Lib.run_eql_slice_nil w _ _ a n c n' c' Tryz.underlying23
  go_enter Tryz.func62, Tryz.ntmps62
  go_wp2
  go_ret
  exact ⟨rfl, rfl⟩
set_option maxRecDepth 100000 in
theorem cClone_some (a : Addr) (n c : Nat) (L : List Nat) (w : World) (h : Sl w 1 (some a) n c (by_ L)) (hn : n < 1099511627776) :
    Calls Tryz.prog 62 #[.slice (some a) n c] w (ByRet L w) := by
  obtain ⟨i0, hi, hz0, hz1, hz2⟩ := info_parts u8_info
  have hL : L.length = n := by have := h.len; rw [by_len] at this; omega
  have HS := Lib.hid h
  have HL := Lib.hid hL
  clear h hL
  have q22 : ∀ (w : World) (a : Option Addr) (n c n' c' : Nat), (binOp .eql 23 (.slice a n c) (.slice none n' c')).run Tryz.prog w = .ok (.bool a.isNone) w := fun w a n c n' c' => Go.Lib.run_eql_slice_nil w _ _ a n c n' c' Tryz.underlying23
  go_enter Tryz.func62, Tryz.ntmps62
  go_wp2_with (at_builtin; refine wpList_append_sl (w.alloc (.cells #[] 5)) rfl _ _ 23 rfl w.heap.size 5 i0 (.int .u8 0) 1 1 Tryz.underlying23 hi hz0 hz1 hz2 rfl (by decide) _ 0 [] (by rfl) (own_empty w _ _) (some a) n c (by_ L) (by rfl) (HS.out.ext ((Ext.refl _).alloc _)) by_one (by omega) (by decide) (by simp) ?_; intro v1 w1 hown1 hb1; simp only [Nat.zero_add, List.nil_append] at hown1; have H := Lib.hid (show ByRet L w (.returned v1) w1 from ⟨v1, rfl, by rw [HL.out]; exact hown1, ((Ext.refl w).alloc (.cells #[] 5)).below hb1⟩); clear hown1 hb1)
  go_ret
  exact H.out
/-- bytes handed back, maybe none at all -/
theorem cClone_any (A : Option Addr) (c : Nat) (L : List Nat) (w : World) (h : Sl w 1 A L.length c (by_ L)) (hn : L.length < 1099511627776) (hnil : A = none → c = 0) :
    Calls Tryz.prog 62 #[.slice A L.length c] w (ByRet L w) := by
  rcases A with _ | a
  · have hc := hnil rfl
    subst hc
    have h0 : L.length = 0 := by
      rcases Nat.eq_zero_or_pos L.length with h0 | h0
      · exact h0
      · obtain ⟨_, _, hh, _⟩ := h.at_ h0; cases hh
    have hL : L = [] := List.eq_nil_of_length_eq_zero h0
    subst hL
    refine (cClone_nil w).mono ?_
    rintro e w' ⟨rfl, rfl⟩
    exact ⟨_, rfl, World.ownsRow_nil _ _ _ _, Ext.refl _⟩
  · exact cClone_some a L.length c L w h hn
/-- bytes and an error handed back -/
def ByErr (L : List Nat) (er : Int) (w : World) (e : Ending) (w' : World) : Prop := ∃ v, e = .returned (.tuple #[v, .int .i64 er]) ∧ w'.ownsRow w.heap.size 5 1 v L.length (by_ L) ∧ Ext w w'
theorem cDone_any (g : Nat) (lim e : Int) (L : List Nat) (w : World) (h : Wr w g lim e L) :
    Calls Tryz.prog 24 #[.pointer (some ⟨g, 0, none⟩)] w (ByErr (if e = 0 then L else []) e w) := by
  have H2 := h.c2
  have H3 := h.c3
  obtain ⟨A, c, H0, hown⟩ := h.b
  by_cases he : e = 0
  · subst he
    rw [if_pos rfl]
    have hs := Sl.own hown
    have hnil : A = none → c = 0 := by
      intro hA
      subst hA
      rcases hown.2 with ⟨h', _⟩ | ⟨g', cap, cur, h', _⟩
      · injection h'
      · injection h' with h1; cases h1
    have C := Lib.hid (cClone_any A c L w hs (by have := h.short; omega) hnil)
    clear h hown hs hnil
    go_enter Tryz.func24, Tryz.ntmps24
    go_wp2_with fail
    refine (cstate_any g 0 _ H2 H3).mono ?_
    rintro r w1 ⟨rfl, rfl⟩
    go_wp2_with fail
    refine C.out.mono ?_
    rintro r w1 ⟨v, rfl, h1, h2⟩
    have H := Lib.hid (show ByErr L 0 w (.returned (.tuple #[v, .int .i64 0])) w1 from ⟨v, rfl, h1, h2⟩)
    clear h1 h2 C
    go_wp2_with fail
    go_ret2
    exact H.out
  · rw [if_neg he]
    have hef : (e == 0) = false := beq_false_of_ne he
    have H : Hid (ByErr [] e w (.returned (.tuple #[.slice none 0 0, .int .i64 e])) w) := Lib.hid ⟨_, rfl, World.ownsRow_nil _ _ _ _, Ext.refl _⟩
    clear h hown he
    go_enter Tryz.func24, Tryz.ntmps24
    go_wp2_with fail
    refine (cstate_any g e _ H2 H3).mono ?_
    rintro r w1 ⟨rfl, rfl⟩
    go_wp2_with fail
    go_ret2
    exact H.out
end
section
open Go.RowKit
/-- the number that bytes begin with, how many bytes it has, and what is wrong -/
def numGo : List Nat → Nat → Nat → Nat × Nat × Int
  | [], _, _ => (0, 0, 6)
  | c :: l, i, acc => if (i = 9 ∧ 1 < c) ∨ (0 < i ∧ c = 0) then (0, 0, 5) else if c < 128 then (acc + c % 128 * 2 ^ (7 * i), i + 1, 0) else numGo l (i + 1) (acc + c % 128 * 2 ^ (7 * i))
theorem numGo_drop {L : List Nat} {k acc : Nat} (h : k < L.length) : numGo (L.drop k) k acc =
    if (k = 9 ∧ 1 < L.getD k 0) ∨ (0 < k ∧ L.getD k 0 = 0) then (0, 0, 5) else if L.getD k 0 < 128 then (acc + L.getD k 0 % 128 * 2 ^ (7 * k), k + 1, 0) else numGo (L.drop (k + 1)) (k + 1) (acc + L.getD k 0 % 128 * 2 ^ (7 * k)) := by
  rw [List.drop_eq_getElem_cons h, numGo, List.getD_eq_getElem?_getD, List.getElem?_eq_getElem h]
  rfl
theorem and_all : ∀ r : Fin 256, bits .and .u8 (r.1 : Int) 127 = ((r.1 % 128 : Nat) : Int) := by decide +kernel
theorem and_byte (c : Nat) (h : c < 256) : bits .and .u8 (c : Int) 127 = ((c % 128 : Nat) : Int) := and_all ⟨c, h⟩
theorem pow7_le {k : Nat} (h : k ≤ 9) : 2 ^ (7 * k) ≤ 9223372036854775808 := Nat.le_trans (Nat.pow_le_pow_right (by decide) (show 7 * k ≤ 63 by omega)) (by decide)
theorem acc_step {acc c k : Nat} (ha : acc < 2 ^ (7 * k)) (hc : c < 128) : acc + c * 2 ^ (7 * k) < 2 ^ (7 * (k + 1)) := by
  have e : 2 ^ (7 * (k + 1)) = 2 ^ (7 * k) * 128 := by rw [show 7 * (k + 1) = 7 * k + 7 from by omega, Nat.pow_add]
  rw [e]
  have : c * 2 ^ (7 * k) ≤ 127 * 2 ^ (7 * k) := Nat.mul_le_mul_right _ (by omega)
  omega
theorem acc_small {acc c k : Nat} (ha : acc < 2 ^ (7 * k)) (hk : k ≤ 9) (hc : c < 128) (h9 : k = 9 → c ≤ 1) : c * 2 ^ (7 * k) < 18446744073709551616 ∧ acc + c * 2 ^ (7 * k) < 18446744073709551616 := by
  have hp := pow7_le hk
  rcases Nat.lt_or_ge k 9 with h | h
  · have h1 := acc_step ha hc
    have h2 := pow7_le (k := k + 1) (by omega)
    omega
  · obtain rfl : k = 9 := by omega
    have h1 := h9 rfl
    have h2 : c * 2 ^ (7 * 9) ≤ 1 * 2 ^ (7 * 9) := Nat.mul_le_mul_right _ h1
    omega
theorem or_acc {acc c k : Nat} (ha : acc < 2 ^ (7 * k)) (h1 : acc < 18446744073709551616) (h2 : c * 2 ^ (7 * k) < 18446744073709551616) : bits .or .u64 (acc : Int) ((c * 2 ^ (7 * k) : Nat) : Int) = ((acc + c * 2 ^ (7 * k) : Nat) : Int) := by
  rw [bits_or_u64_nat _ _ h1 h2]
  congr 1
  have := Nat.two_pow_add_eq_or_of_lt ha c
  rw [Nat.or_comm, Nat.mul_comm c, ← this]
  omega
theorem num_val {acc c k : Nat} (ha : acc < 2 ^ (7 * k)) (h : c % 128 * 2 ^ (7 * k) < 18446744073709551616 ∧ acc + c % 128 * 2 ^ (7 * k) < 18446744073709551616) :
    bits .or .u64 (acc : Int) (IntKind.u64.wrap ((c : Int) % 128 * 2 ^ (7 * k))) = ((acc + c % 128 * 2 ^ (7 * k) : Nat) : Int) := by
  have e : ((c : Int) % 128 * 2 ^ (7 * k)) = ((c % 128 * 2 ^ (7 * k) : Nat) : Int) := by simp
  rw [e, show IntKind.u64.wrap ((c % 128 * 2 ^ (7 * k) : Nat) : Int) = ((c % 128 * 2 ^ (7 * k) : Nat) : Int) from by rw [IntKind.wrap_u64]; omega]
  exact or_acc ha (by omega) h.1
theorem ret3 {k l m : IntKind} {a b c a' b' c' : Int} (h1 : a = a') (h2 : b = b') (h3 : c = c') : Ending.returned (.tuple #[.int k a, .int l b, .int m c]) = .returned (.tuple #[.int k a', .int l b', .int m c']) := by rw [h1, h2, h3]
/-- the bytes are bytes -/
def Byt (L : List Nat) : Prop := ∀ x ∈ L, x < 256
theorem Byt.get {L : List Nat} (h : Byt L) (k : Nat) : L.getD k 0 < 256 := by
  rw [List.getD_eq_getElem?_getD]
  rcases Nat.lt_or_ge k L.length with hk | hk
  · rw [List.getElem?_eq_getElem hk]; exact h _ (List.getElem_mem hk)
  · rw [List.getElem?_eq_none hk]; decide
theorem by_get (L : List Nat) (j : Nat) (h : j < L.length) : (by_ L)[j]? = some (.int .u8 ((L.getD j 0 : Nat) : Int)) := by
  unfold by_
  rw [List.getElem?_map, List.getD_eq_getElem?_getD, List.getElem?_eq_getElem h]
  rfl
set_option maxRecDepth 100000 in
set_option maxHeartbeats 1000000 in
theorem cnumber_any (A : Option Addr) (n c : Nat) (L : List Nat) (w : World) (h : Sl w 1 A n c (by_ L)) (hB : Byt L) :
    Calls Tryz.prog 69 #[.slice A n c] w fun r w' => r = .returned (.tuple #[.int .u64 ((numGo L 0 0).1 : Int), .int .i64 ((numGo L 0 0).2.1 : Int), .int .i64 (numGo L 0 0).2.2]) ∧ w = w' := by
  have hs := h.small
  have hL : L.length = n := by have := h.len; rw [by_len] at this; omega
  obtain ⟨V, hV⟩ : ∃ V, V = numGo L 0 0 := ⟨_, rfl⟩
  rw [← hV]
  have HV := Lib.hid hV
  have HL := Lib.hid hL
  have HS := Lib.hid h
  have HB := Lib.hid hB
  clear hV hL h hB
  go_enter Tryz.func69, Tryz.ntmps69
  go_wp2
  go_loopg [5, 10] n (fun g a i wx => g ≤ n ∧ n - g ≤ 9 ∧ ∃ acc : Nat, Hid (V = numGo (L.drop (n - g)) (n - g) acc ∧ acc < 2 ^ (7 * (n - g))) ∧ acc < 18446744073709551616 ∧ a = .int .u64 (acc : Int) ∧ i = .int .i64 ((n - g : Nat) : Int) ∧ wx = w)
  case atStart => exact ⟨Nat.le_refl _, by omega, 0, ⟨by rw [Nat.sub_self]; exact HV.out, by rw [Nat.sub_self]; decide⟩, by decide, rfl, by simp, rfl⟩
  case round =>
    obtain ⟨hg, hg9, acc, H, ha, rfl, hi, rfl⟩ := hrel
    obtain ⟨k, hk⟩ : ∃ k, k = n - gk := ⟨_, rfl⟩
    rw [← hk] at H hi hg9
    subst hi
    by_cases hz : gk = 0
    · have hkn : ¬ (k : Int) < n := by omega
      have e : V = (0, 0, 6) := by
        rw [H.out.1, List.drop_eq_nil_of_le (by have := HL.out; omega)]; rfl
      subst e
      clear H hz hg hk hg9
      go_wp2
      exact bodyPost_ret (by simp [results, Tryz.results69, go_sem]; try rfl) rfl ⟨rfl, rfl⟩
    · have hkn : (k : Int) < n := by omega
      obtain ⟨b, o, rfl, hb, hc⟩ := HS.out.at_ (show 0 < n from by omega)
      have hkl : k < L.length := by have := HL.out; omega
      have hc1 := hc k _ (by_get L k hkl)
      have hx := numGo_drop (L := L) (k := k) (acc := acc) hkl
      have hcb := HB.out.get k
      obtain ⟨c, hcc⟩ : ∃ c, c = L.getD k 0 := ⟨_, rfl⟩
      rw [← hcc] at hc1 hx hcb
      rw [← H.out.1] at hx
      have HX := Lib.hid hx
      have HK := Lib.hid (And.intro hk (And.intro hg hz))
      clear hx hcc hc hk hg hz
      have hcI : (0 : Int) ≤ (c : Int) := by omega
      have hcJ : (c : Int) < 256 := by omega
      have hk0 : (0 : Int) ≤ (k : Int) := by omega
      have hk9 : (k : Int) ≤ 9 := by omega
      by_cases hA : k = 9 ∧ 1 < c
      · have e : V = (0, 0, 5) := by rw [HX.out, if_pos (.inl hA)]
        subst e
        have p1 : ((k : Int) == 9) = true := by simp [hA.1]
        have p2 : decide (1 < (c : Int)) = true := decide_eq_true (by omega)
        clear hA H HX
        go_wp2
        exact bodyPost_ret (by simp [results, Tryz.results69, go_sem]; try rfl) rfl ⟨rfl, rfl⟩
      · by_cases hB : 0 < k ∧ c = 0
        · have e : V = (0, 0, 5) := by rw [HX.out, if_pos (.inr hB)]
          subst e
          have p3 : decide (0 < (k : Int)) = true := decide_eq_true (by omega)
          have q3 : decide (0 < k) = true := decide_eq_true (by omega)
          have hc2 : wr.cell? ⟨b, o + k, none⟩ = some (.int .u8 0) := by rw [hc1, hB.2]; rfl
          clear hA hB H HX hc1 hcI hcJ hcb
          by_cases p : k = 9
          · have p1 : ((k : Int) == 9) = true := by simp [p]
            clear p
            go_wp2
            exact bodyPost_ret (by simp [results, Tryz.results69, go_sem]; try rfl) rfl ⟨rfl, rfl⟩
          · have p1 : ((k : Int) == 9) = false := by simp; omega
            clear p
            go_wp2
            exact bodyPost_ret (by simp [results, Tryz.results69, go_sem]; try rfl) rfl ⟨rfl, rfl⟩
        · have hx := HX.out
          rw [if_neg (by omega)] at hx
          have hsm := acc_small (c := c % 128) H.out.2 hg9 (by omega) (by omega)
          have HA := Lib.hid H.out.2
          have HSM := Lib.hid hsm
          have HX2 := Lib.hid hx
          have e1 := and_byte c hcb
          have hc7 : ((c % 128 : Nat) : Int) < 128 := by omega
          have H9 := Lib.hid (show k = 9 → c < 128 from fun hh => by omega)
          have hcases : k = 0 ∨ (¬ k = 9 ∧ 0 < k ∧ ¬ c = 0) ∨ (k = 9 ∧ c = 1) := by omega
          clear hA hB H HX hx hsm
          rcases hcases with hk1 | ⟨hk1, hk2, hc3⟩ | ⟨hk1, hc3⟩
          · have p1 : ((k : Int) == 9) = false := by simp; omega
            have p3 : decide (0 < (k : Int)) = false := by simp; omega
            have q3 : decide (0 < k) = false := by simp; omega
            clear hk1
            by_cases h8 : (c : Int) < 128
            · have hv := HX2.out
              rw [if_pos (by omega)] at hv
              replace hv := Lib.hid hv
              go_wp2
              refine bodyPost_ret (v := .tuple #[.int .u64 (bits .or .u64 (acc : Int) (IntKind.u64.wrap ((c : Int) % 128 * 2 ^ (7 * k)))), .int .i64 ((k : Int) + 1), .int .i64 0]) (by simp [results, Tryz.results69, go_sem]; try rfl) rfl ⟨ret3 ?_ ?_ ?_, rfl⟩
              · rw [hv.out]; exact num_val HA.out HSM.out
              · rw [hv.out]; simp
              · rw [hv.out]
            · have hv := HX2.out
              rw [if_neg (by omega)] at hv
              replace hv := Lib.hid hv
              go_wp2
              go_roundg (gk - 1)
              case measure => have := HK.out; omega
              case rel =>
                have e2 : n - (gk - 1) = k + 1 := by have := HK.out; omega
                have h9 : ¬ k = 9 := by intro hh; have := H9.out hh; omega
                exact ⟨by have := HK.out; omega, by omega, acc + c % 128 * 2 ^ (7 * k), by rw [e2]; exact Lib.hid ⟨hv.out, acc_step HA.out (by omega)⟩, HSM.out.2, num_eq (num_val HA.out HSM.out), num_eq (by rw [e2]; simp), rfl⟩
          · have p1 : ((k : Int) == 9) = false := by simp; omega
            have p3 : decide (0 < (k : Int)) = true := by simp; omega
            have q3 : decide (0 < k) = true := by simp; omega
            have p4 : ((c : Int) == 0) = false := by simp; omega
            clear hk1 hc3
            by_cases h8 : (c : Int) < 128
            · have hv := HX2.out
              rw [if_pos (by omega)] at hv
              replace hv := Lib.hid hv
              go_wp2
              refine bodyPost_ret (v := .tuple #[.int .u64 (bits .or .u64 (acc : Int) (IntKind.u64.wrap ((c : Int) % 128 * 2 ^ (7 * k)))), .int .i64 ((k : Int) + 1), .int .i64 0]) (by simp [results, Tryz.results69, go_sem]; try rfl) rfl ⟨ret3 ?_ ?_ ?_, rfl⟩
              · rw [hv.out]; exact num_val HA.out HSM.out
              · rw [hv.out]; simp
              · rw [hv.out]
            · have hv := HX2.out
              rw [if_neg (by omega)] at hv
              replace hv := Lib.hid hv
              go_wp2
              go_roundg (gk - 1)
              case measure => have := HK.out; omega
              case rel =>
                have e2 : n - (gk - 1) = k + 1 := by have := HK.out; omega
                have h9 : ¬ k = 9 := by intro hh; have := H9.out hh; omega
                exact ⟨by have := HK.out; omega, by omega, acc + c % 128 * 2 ^ (7 * k), by rw [e2]; exact Lib.hid ⟨hv.out, acc_step HA.out (by omega)⟩, HSM.out.2, num_eq (num_val HA.out HSM.out), num_eq (by rw [e2]; simp), rfl⟩
          · have p1 : ((k : Int) == 9) = true := by simp; omega
            have p2 : decide (1 < (c : Int)) = false := by simp; omega
            have q2 : decide (1 < c) = false := by simp; omega
            have p3 : decide (0 < (k : Int)) = true := by simp; omega
            have q3 : decide (0 < k) = true := by simp; omega
            have p4 : ((c : Int) == 0) = false := by simp; omega
            clear hk1 hc3
            by_cases h8 : (c : Int) < 128
            · have hv := HX2.out
              rw [if_pos (by omega)] at hv
              replace hv := Lib.hid hv
              go_wp2
              refine bodyPost_ret (v := .tuple #[.int .u64 (bits .or .u64 (acc : Int) (IntKind.u64.wrap ((c : Int) % 128 * 2 ^ (7 * k)))), .int .i64 ((k : Int) + 1), .int .i64 0]) (by simp [results, Tryz.results69, go_sem]; try rfl) rfl ⟨ret3 ?_ ?_ ?_, rfl⟩
              · rw [hv.out]; exact num_val HA.out HSM.out
              · rw [hv.out]; simp
              · rw [hv.out]
            · have hv := HX2.out
              rw [if_neg (by omega)] at hv
              replace hv := Lib.hid hv
              go_wp2
              go_roundg (gk - 1)
              case measure => have := HK.out; omega
              case rel =>
                have e2 : n - (gk - 1) = k + 1 := by have := HK.out; omega
                have h9 : ¬ k = 9 := by intro hh; have := H9.out hh; omega
                exact ⟨by have := HK.out; omega, by omega, acc + c % 128 * 2 ^ (7 * k), by rw [e2]; exact Lib.hid ⟨hv.out, acc_step HA.out (by omega)⟩, HSM.out.2, num_eq (num_val HA.out HSM.out), num_eq (by rw [e2]; simp), rfl⟩
end
section
open Go.RowKit
theorem cell_lt {w : World} {b o : Nat} {v : Value} (h : w.cell? ⟨b, o, none⟩ = some v) : b < w.heap.size := by
  by_cases hb : b < w.heap.size
  · exact hb
  · simp [World.cell?, Array.getElem?_eq_none (show w.heap.size ≤ b from by omega)] at h
theorem Ext.has {a b : World} (h : Ext a b) {k o : Nat} {v : Value} (hc : a.cell? ⟨k, o, none⟩ = some v) : b.cell? ⟨k, o, none⟩ = some v := (h.cells.1 k o (cell_lt hc)).trans hc
theorem Ext.froz {a b : World} (h : Ext a b) {k o : Nat} {v : Value} (hc : a.cell? ⟨k, o, none⟩ = some v) (hf : a.frozen? ⟨k, o, none⟩ = false) : b.frozen? ⟨k, o, none⟩ = false := (h.cells.2 k o (cell_lt hc)).trans hf
/-- of what was there only the blocks in S may have turned -/
structure But (S : Nat → Prop) (w w' : World) : Prop where
  os : w'.os = w.os
  tape : w'.tape = w.tape
  output : w'.output = w.output
  size : w.heap.size ≤ w'.heap.size
  block : ∀ k, k < w.heap.size → ¬ S k → w'.heap[k]? = w.heap[k]?
section
variable {S : Nat → Prop} {a b c w w' : World}
theorem But.refl (S : Nat → Prop) (w : World) : But S w w := ⟨rfl, rfl, rfl, Nat.le_refl _, fun _ _ _ => rfl⟩
theorem But.trans (h : But S a b) (k : But S b c) : But S a c :=
  ⟨k.os.trans h.os, k.tape.trans h.tape, k.output.trans h.output, Nat.le_trans h.size k.size, fun i hi hs => (k.block i (by have := h.size; omega) hs).trans (h.block i hi hs)⟩
theorem But.ofExt (h : Ext a b) : But S a b := ⟨h.os, h.tape, h.output, Ext.size h, fun k hk _ => Below.block h k hk⟩
theorem But.mono {S' : Nat → Prop} (h : But S a b) (hs : ∀ k, k < a.heap.size → S k → S' k) : But S' a b := ⟨h.os, h.tape, h.output, h.size, fun k hk hn => h.block k hk (fun hk' => hn (hs k hk hk'))⟩
theorem But.setCell (h : But S a b) {p : Addr} (hp : S p.block) (u : Value) : But S a (b.setCell p u) :=
  h.trans ⟨rfl, rfl, rfl, by simp [World.setCell], fun k _ hn => Below.heap_setCell _ _ _ _ (fun e => hn (e ▸ hp))⟩
theorem But.alloc (h : But S a b) (o : Obj) : But S a (b.alloc o) := h.trans (But.ofExt ((Ext.refl _).alloc o))
theorem But.drewN (h : But S a b) (n : Nat) : But S a (b.drewN n) := ⟨h.os, h.tape, h.output, h.size, h.block⟩
theorem But.below {B : Nat} (h : But S a b) (hB : B ≤ a.heap.size) (hs : ∀ k, k < B → ¬ S k) : Below B a b := ⟨h.os, h.tape, h.output, h.size, fun k hk => h.block k (by omega) (hs k hk)⟩
theorem But.cell (h : But S a b) {k o : Nat} (hk : k < a.heap.size) (hs : ¬ S k) : b.cell? ⟨k, o, none⟩ = a.cell? ⟨k, o, none⟩ := World.cell?_of_block (w := a) (a := ⟨k, o, none⟩) (h.block k hk hs)
theorem But.frozen (h : But S a b) {k o : Nat} (hk : k < a.heap.size) (hs : ¬ S k) : b.frozen? ⟨k, o, none⟩ = a.frozen? ⟨k, o, none⟩ := World.frozen?_of_block (w := a) (a := ⟨k, o, none⟩) (h.block k hk hs)
theorem But.has (h : But S a b) {k o : Nat} {v : Value} (hs : ¬ S k) (hc : a.cell? ⟨k, o, none⟩ = some v) : b.cell? ⟨k, o, none⟩ = some v := (h.cell (cell_lt hc) hs).trans hc
theorem But.froz (h : But S a b) {k o : Nat} {v : Value} (hs : ¬ S k) (hc : a.cell? ⟨k, o, none⟩ = some v) (hf : a.frozen? ⟨k, o, none⟩ = false) : b.frozen? ⟨k, o, none⟩ = false := (h.frozen (cell_lt hc) hs).trans hf
end
theorem heap_set_type {w : World} {p : Addr} {v : Value} {cs : Array Value} {t : TypeId} {z : Nat × Nat} (h : w.heap[p.block]? = some (.cells cs t z)) : ∃ cs', (w.setCell p v).heap[p.block]? = some (.cells cs' t z) := by
  simp only [World.setCell, Array.getElem?_modify, if_pos, h, Option.map_some]
  exact ⟨_, rfl⟩
theorem But.setNew {S : Nat → Prop} {a b : World} (h : But S a b) {p : Addr} (hp : a.heap.size ≤ p.block) (u : Value) : But S a (b.setCell p u) :=
  ⟨h.os, h.tape, h.output, by have := h.size; simpa using this, fun k hk hs => (Below.heap_setCell _ _ _ _ (by omega)).trans (h.block k hk hs)⟩
theorem But.drew {S : Nat → Prop} {a b : World} (h : But S a b) : But S a b.drew := ⟨h.os, h.tape, h.output, h.size, h.block⟩
theorem But.setG {g o : Nat} {a b : World} (h : But (· = g) a b) (u : Value) : But (· = g) a (b.setCell ⟨g, o, none⟩ u) := h.setCell (p := ⟨g, o, none⟩) rfl u
end
section
open Go.RowKit
theorem own_keep {w w' : World} {base : Nat} {e : TypeId} {sz n : Nat} {v : Value} {xs : List Value} (h : w.ownsRow base e sz v n xs) (hb : Ext w w') : w'.ownsRow base e sz v n xs := by
  refine ⟨h.1, ?_⟩
  rcases h.2 with h2 | ⟨q, cap, cur, e', hq, hq2, rest⟩
  · exact .inl h2
  · exact .inr ⟨q, cap, cur, e', hq, (Below.block hb q (Array.getElem?_eq_some_iff.1 hq2).1).trans hq2, rest⟩
theorem own_parts2 {w : World} {base : Nat} {e : TypeId} {sz n : Nat} {v : Value} {xs : List Value} (h : w.ownsRow base e sz v n xs) : ∃ A c, v = .slice A n c ∧ (A = none → c = 0) ∧ Sl w sz A n c xs := by
  rcases h.2 with ⟨rfl, rfl⟩ | ⟨g, cap, cur, rfl, rest⟩
  · exact ⟨_, _, rfl, fun _ => rfl, Sl.own h⟩
  · refine ⟨_, _, rfl, ?_, Sl.own h⟩
    intro hh
    cases hh
end
section
open Go.RowKit
/-- an operation that yields in every world that meets S is taken first -/
theorem take_in {P : Program} {md : Region.Mode} {l : List Oper} {Q : Exit → Act → World → Prop} {S : World → Prop} {oi : Oper} {v : Value} {fuel : Nat} {listed : Array Bool} {a : Act} {w : World} (i : Nat) (hi : l[i]? = some oi)
    (hs : Region.noSelect l.toArray = true) (hf : Region.free md l.toArray listed i = true) (hr : (Region.ready md l.toArray listed).contains i = true)
    (hQ : ∀ c a w, Q (.panic c) (a.put oi.dst v) w → Q (.panic c) a w) (hw : Region.wanted oi (yielded l.toArray a.tmps) = true) (hS : S w) (hy : ∀ w, S w → (execOp a.eval oi).run P w = .ok (.value v) w)
    (h : wpAnyH P md l.toArray Q S fuel (listed.setIfInBounds i true) (a.put oi.dst v) w) : wpAnyH P md l.toArray Q S (fuel + 1) listed a w :=
  wpAnyH_take (ops := l.toArray) (i := i) (oi := oi) (v := v) (by simpa using hi) hs hf hr hQ (Or.inl ⟨hw, hy⟩) hS h
/-- an operation that its guard leaves out is taken first -/
theorem skip_in {P : Program} {md : Region.Mode} {l : List Oper} {Q : Exit → Act → World → Prop} {S : World → Prop} {oi : Oper} {fuel : Nat} {listed : Array Bool} {a : Act} {w : World} (i : Nat) (hi : l[i]? = some oi)
    (hs : Region.noSelect l.toArray = true) (hf : Region.free md l.toArray listed i = true) (hr : (Region.ready md l.toArray listed).contains i = true)
    (hQ : ∀ c a w, Q (.panic c) (a.put oi.dst undef) w → Q (.panic c) a w) (hw : Region.wanted oi (yielded l.toArray a.tmps) = false) (hS : S w)
    (h : wpAnyH P md l.toArray Q S fuel (listed.setIfInBounds i true) (a.put oi.dst undef) w) : wpAnyH P md l.toArray Q S (fuel + 1) listed a w :=
  wpAnyH_take (ops := l.toArray) (i := i) (oi := oi) (v := undef) (by simpa using hi) hs hf hr hQ (Or.inr ⟨hw, rfl⟩) hS h
/-- the one operation that may come up next -/
theorem next_in {P : Program} {md : Region.Mode} {l : List Oper} {Q : Exit → Act → World → Prop} {S : World → Prop} {oi : Oper} {fuel : Nat} {listed : Array Bool} {a : Act} {w : World} (i : Nat) (hi : l[i]? = some oi)
    (hr : Region.ready md l.toArray listed = [i]) (hw : Region.wanted oi (yielded l.toArray a.tmps) = true)
    (h : ∀ K' : Act → World → Prop, Shut (∀ a w, S w → (S w → wpAnyH P md l.toArray Q S fuel (listed.setIfInBounds i true) a w) → K' a w) → Oper.wp P oi a w K' Q) : wpAnyH P md l.toArray Q S (fuel + 1) listed a w :=
  wpAnyH_ready hr (by simp) (AllReadyH.cons (o := oi) (by simpa using hi) (fun K' hK => by rw [if_pos hw]; exact h K' hK) AllReadyH.nil)
end
section
open Go.RowKit
theorem next2_in {P : Program} {md : Region.Mode} {l : List Oper} {Q : Exit → Act → World → Prop} {S : World → Prop} {oi oj : Oper} {fuel : Nat} {listed : Array Bool} {a : Act} {w : World} (i j : Nat) (hi : l[i]? = some oi) (hj : l[j]? = some oj)
    (hr : Region.ready md l.toArray listed = [i, j]) (hw : Region.wanted oi (yielded l.toArray a.tmps) = true) (hw2 : Region.wanted oj (yielded l.toArray a.tmps) = true)
    (h : ∀ K' : Act → World → Prop, Shut (∀ a w, S w → (S w → wpAnyH P md l.toArray Q S fuel (listed.setIfInBounds i true) a w) → K' a w) → Oper.wp P oi a w K' Q)
    (h2 : ∀ K' : Act → World → Prop, Shut (∀ a w, S w → (S w → wpAnyH P md l.toArray Q S fuel (listed.setIfInBounds j true) a w) → K' a w) → Oper.wp P oj a w K' Q) : wpAnyH P md l.toArray Q S (fuel + 1) listed a w :=
  wpAnyH_ready hr (by simp) (AllReadyH.cons (o := oi) (by simpa using hi) (fun K' hK => by rw [if_pos hw]; exact h K' hK) (AllReadyH.cons (o := oj) (by simpa using hj) (fun K' hK => by rw [if_pos hw2]; exact h2 K' hK) AllReadyH.nil))
end
section
open Go.RowKit Go.ChangeShapes Go.WideShapes Go.Deep Go.Joins
theorem flat_len {α : Type} {f : α → List Value} {sz : Nat} (hf : ∀ x, (f x).length = sz) (l : List α) : (l.flatMap f).length = l.length * sz := by
  induction l with
  | nil => simp
  | cons x l ih => rw [List.flatMap_cons, List.length_append, hf, ih, List.length_cons, Nat.add_mul, Nat.one_mul, Nat.add_comm]
theorem flat_get {α : Type} {f : α → List Value} {sz : Nat} (hf : ∀ x, (f x).length = sz) : ∀ (l : List α) (i j : Nat) (x : α), l[i]? = some x → j < sz → (l.flatMap f)[i * sz + j]? = (f x)[j]?
  | [], i, j, x, h, _ => by simp at h
  | y :: l, 0, j, x, h, hj => by
    simp at h
    subst h
    rw [List.flatMap_cons, Nat.zero_mul, Nat.zero_add, List.getElem?_append_left (by rw [hf]; exact hj)]
  | y :: l, i + 1, j, x, h, hj => by
    rw [List.flatMap_cons, Nat.add_mul, Nat.one_mul, List.getElem?_append_right (by rw [hf]; omega), hf]
    rw [show i * sz + sz + j - sz = i * sz + j from by omega]
    exact flat_get hf l i j x (by simpa using h) hj
theorem flat_take {α : Type} {f : α → List Value} {sz : Nat} (hf : ∀ x, (f x).length = sz) : ∀ (l : List α) (k : Nat), (l.flatMap f).take (k * sz) = (l.take k).flatMap f
  | [], k => by simp
  | y :: l, 0 => by simp
  | y :: l, k + 1 => by
    rw [List.flatMap_cons, Nat.add_mul, Nat.one_mul, List.take_succ_cons, List.flatMap_cons, List.take_append, hf, show k * sz + sz - sz = k * sz from by omega, flat_take hf l k, List.take_of_length_le (by rw [hf]; omega)]
theorem chunks {α : Type} {f : α → List Value} {sz : Nat} (hpos : 0 < sz) {Good : α → Prop} : ∀ (n : Nat) (xs : List Value), xs.length = n * sz →
    (∀ i, i < n → ∃ x, (xs.drop (i * sz)).take sz = f x ∧ Good x) → ∃ l : List α, l.length = n ∧ l.flatMap f = xs ∧ ∀ x ∈ l, Good x
  | 0, xs, hl, _ => ⟨[], rfl, by rw [Nat.zero_mul] at hl; rw [List.eq_nil_of_length_eq_zero hl]; rfl, by simp⟩
  | n + 1, xs, hl, h => by
    obtain ⟨x, hx, gx⟩ := h 0 (by omega)
    rw [Nat.zero_mul, List.drop_zero] at hx
    obtain ⟨l, h1, h2, h3⟩ := chunks hpos n (xs.drop sz) (by rw [List.length_drop, hl, Nat.add_mul, Nat.one_mul]; omega) fun i hi => by
      obtain ⟨y, hy, gy⟩ := h (i + 1) (by omega)
      exact ⟨y, by rw [List.drop_drop]; rw [Nat.add_mul, Nat.one_mul, Nat.add_comm] at hy; exact hy, gy⟩
    exact ⟨x :: l, by simp [h1], by rw [List.flatMap_cons, h2, ← hx, List.take_append_drop], fun z hz => by
      rcases List.mem_cons.1 hz with rfl | hz
      · exact gx
      · exact h3 z hz⟩

section
variable {H : Type} {enc : TypeId × Value → H} {P : Program} {w : World} {base : Nat} {spare : Nat → Bool} {held : Bool}
/-- a slice of records that came in -/
theorem open_rec {α : Type} {f : α → List Value} {Good : α → Prop} {t e : TypeId} {sz n c : Nat} {A : Option Addr} {d : DataW H} {p : List MemPlace} (ht : P.underlying t = some (.slice e)) (hc : P.cellsOf e = sz) (hpos : 0 < sz)
    (hel : ∀ cs m y, DataW.trod enc P w base spare held m e cs = some y → cs.length = sz → ∃ x : α, cs = f x ∧ Good x)
    (h : DataW.Trod enc P w base spare held t (.slice A n c) d p) : ∃ l : List α, Sl w sz A n c (l.flatMap f) ∧ l.length = n ∧ ∀ x ∈ l, Good x := by
  obtain ⟨fuel, hf⟩ := h
  obtain ⟨xs, hs, hr⟩ := open_raw ht hc hpos (by simpa [Value.cells] using hf)
  have hlen := hs.len
  obtain ⟨l, h1, h2, h3⟩ := chunks (f := f) (Good := Good) hpos n xs hlen fun i hi => by
    obtain ⟨m, y, hy⟩ := hr i hi
    have hle : (i + 1) * sz ≤ n * sz := Nat.mul_le_mul_right _ hi
    rw [Nat.add_mul, Nat.one_mul] at hle
    exact hel _ m y hy (by rw [List.length_take, List.length_drop]; omega)
  exact ⟨l, by rw [h2]; exact hs, h1, h3⟩
end
/-- the cells of the elements -/
theorem Sl.rec_ {α : Type} {f : α → List Value} {sz : Nat} (hf : ∀ x, (f x).length = sz) {w : World} {A : Option Addr} {n c : Nat} {l : List α} (h : Sl w sz A n c (l.flatMap f)) (hn : 0 < n) :
    ∃ b o, A = some ⟨b, o, none⟩ ∧ b < w.heap.size ∧ ∀ i x, l[i]? = some x → ∀ j v, (f x)[j]? = some v → w.cell? ⟨b, o + (i * sz + j), none⟩ = some v := by
  obtain ⟨b, o, e, hb, hc⟩ := h.at_ hn
  refine ⟨b, o, e, hb, fun i x hx j v hv => hc _ _ ?_⟩
  rw [flat_get hf l i j x hx (by have := hf x; have := (List.getElem?_eq_some_iff.1 hv).1; omega)]
  exact hv
theorem Sl.rlen {α : Type} {f : α → List Value} {sz : Nat} (hf : ∀ x, (f x).length = sz) (hp : 0 < sz) {w : World} {A : Option Addr} {n c : Nat} {l : List α} (h : Sl w sz A n c (l.flatMap f)) : l.length = n := by
  have h1 := h.len
  rw [flat_len hf] at h1
  exact Nat.eq_of_mul_eq_mul_right hp h1
end
section
open Go.RowKit Go.ChangeShapes Go.WideShapes Go.Deep Go.Joins
section
variable {H : Type} {enc : TypeId × Value → H} {P : Program} {w : World} {base : Nat} {spare : Nat → Bool} {held : Bool}
/-- a record of four numbers -/
theorem rec4 {t : TypeId} {k0 k1 k2 k3 : IntKind} {f0 f1 f2 f3 : Field} {cs : List Value} {m : Nat} {y : DataW H × List MemPlace} (ht : P.underlying t = some (.struct #[f0, f1, f2, f3])) (hone : oneCellFields P #[f0, f1, f2, f3] = true)
    (h0 : P.underlying f0.type = some (.int k0)) (h1 : P.underlying f1.type = some (.int k1)) (h2 : P.underlying f2.type = some (.int k2)) (h3 : P.underlying f3.type = some (.int k3))
    (h : DataW.trod enc P w base spare held m t cs = some y) (hl : cs.length = 4) : ∃ x : Int × Int × Int × Int, cs = [.int k0 x.1, .int k1 x.2.1, .int k2 x.2.2.1, .int k3 x.2.2.2] ∧ Fits k0 x.1 ∧ Fits k1 x.2.1 ∧ Fits k2 x.2.2.1 ∧ Fits k3 x.2.2.2 := by
  obtain ⟨y0, y1, y2, y3, m', _, _, g0, g1, g2, g3⟩ := trod_struct4 ht h
  obtain ⟨o0, c0⟩ := hone_of hone 0 f0 rfl
  obtain ⟨o1, c1⟩ := hone_of hone 1 f1 rfl
  obtain ⟨o2, c2⟩ := hone_of hone 2 f2 rfl
  obtain ⟨o3, c3⟩ := hone_of hone 3 f3 rfl
  match cs, hl with
  | [v0, v1, v2, v3], _ =>
    rw [o0, c0] at g0
    rw [o1, c1] at g1
    rw [o2, c2] at g2
    rw [o3, c3] at g3
    obtain ⟨a, ha, _, wa⟩ := DataW.trod_int h0 g0
    obtain ⟨b, hb, _, wb⟩ := DataW.trod_int h1 g1
    obtain ⟨c, hc, _, wc⟩ := DataW.trod_int h2 g2
    obtain ⟨d, hd, _, wd⟩ := DataW.trod_int h3 g3
    simp at ha hb hc hd
    subst ha; subst hb; subst hc; subst hd
    exact ⟨(a, b, c, d), rfl, wa, wb, wc, wd⟩
end
end
section
open Go.RowKit
theorem But.ofGrown {w w' : World} {row : Option Nat} (h : w.grownBy w' row) : But (fun k => row = some k) w w' :=
  ⟨h.os, h.tape, h.output, h.size, fun k hk hn => h.block k hk (fun e => hn e.symm)⟩
theorem own_lower {w : World} {base b : Nat} {e : TypeId} {sz n : Nat} {v : Value} {xs : List Value} (h : w.ownsRow base e sz v n xs) (hb : b ≤ base) : w.ownsRow b e sz v n xs := by
  refine ⟨h.1, ?_⟩
  rcases h.2 with h2 | ⟨q, cap, cur, e', hq, rest⟩
  · exact .inl h2
  · exact .inr ⟨q, cap, cur, e', Nat.le_trans hb hq, rest⟩
theorem wpList_append_slB {P : Program} (w : World) {ops : Array Oper} {rest : List Oper} {o : Oper} {a : Act} {Q : Exit → Act → World → Prop} (hgd : o.guard = none) (s x : Operand) (t : TypeId)
    (ho : o.op = .call { callee := .builtin .append, args := #[s, x], argTypes := #[t, t] })
    (base : Nat) (e : TypeId) (i : TypeInfo) (z : Value) (size bytes : Nat) (ht : P.underlying t = some (.slice e)) (hi : P.info? e = some i) (hz : i.zero = some z)
    (hsize : i.size = size) (hby : i.bytes = bytes) (hzs : z.cells.size = size) (hsz : 0 < size)
    (v : Value) (n : Nat) (xs : List Value) (hs : a.eval s = v) (hown : w.ownsRow base e size v n xs) (A : Option Addr) (m c : Nat) (news : List Value)
    (hx : a.eval x = .slice A m c) (hS : Sl w size A m c news) (h1 : ∀ u ∈ news, u.oneCell' = true)
    (hn : n + m < 1099511627776) (hb128 : bytes ≤ 127) (hbase : base ≤ w.heap.size)
    (h : ∀ v' w', w'.ownsRow base e size v' (n + m) (xs ++ news) → But (fun k => v.ownBlock = some k) w w' → (∀ k, v'.ownBlock = some k → v.ownBlock = some k ∨ w.heap.size ≤ k) → wpList P ops Q rest (a.put o.dst v') w') :
    wpList P ops Q (o :: rest) a w := by
  have hby2 : (n + m) * bytes ≤ 140737488355328 := by
    have : (n + m) * bytes ≤ 1099511627776 * 127 := Nat.mul_le_mul (by omega) hb128
    omega
  have h63 : n + m ≤ maxLen := by simp [maxLen]; omega
  rcases A with _ | ad
  · have hm : m = 0 := by
      rcases Nat.eq_zero_or_pos m with h0 | h0
      · exact h0
      · obtain ⟨_, _, hh, _⟩ := hS.at_ h0
        cases hh
    subst hm
    have hnw : news = [] := hS.drop0
    subst hnw
    have hrun := run_append_none (P := P) w base t o.type e i size ht hi v n xs hown c
    have hk := h v w (by simpa using hown) (But.refl _ _) (fun k hk => .inl hk)
    refine wpList_plain hgd fun K hK => ?_
    unfold Oper.wp execOp
    simp only [ho, resolve, invoke, builtin, Sem.run_bind, Sem.run_pure, Result.andThen_ok, List.map_toArray, List.map_cons, List.map_nil, hs, hx, hrun]
    exact hK _ _ hk
  · have hcells : ∀ j u, news[j]? = some u → w.cell? (ad.add j) = some u := by
      intro j u hu
      rcases Nat.eq_zero_or_pos m with h0 | h0
      · subst h0
        rw [hS.drop0] at hu
        simp at hu
      · obtain ⟨b, o', hh, _, hc⟩ := hS.at_ h0
        injection hh with hh
        subst hh
        rw [addr_add]
        exact hc j u hu
    have hown0 := hown
    rcases hown.2 with ⟨rfl, h0⟩ | ⟨g, cap, cur, rfl, hbg, hg, hnc, hcm, hcs, htake⟩
    · subst h0
      have hxs : xs = [] := List.eq_nil_of_length_eq_zero (by simpa using hown.1)
      subst hxs
      refine wpList_append_own w hgd s x t ho w.heap.size e i z size bytes ht hi hz hsize hby hzs hsz _ 0 [] hs (World.ownsRow_nil _ _ _ _) ad m c news hx hS.len hcells h1 h63 hby2 (Nat.le_refl _) ?_
      intro v' w' h2 h3 _
      exact h v' w' (own_lower h2 hbase) (But.ofGrown h3) (fun k hk => .inr (h2.lt k hk).1)
    · by_cases hfit : n + m ≤ cap
      · refine wpList_append_fits w hgd s x t ho base e i size ht hi hsize g n cap xs hs hown0 ad m c news hx hS.len hcells h1 hfit ?_
        intro w' h2 h3
        exact h _ w' h2 (But.ofGrown h3) (fun k hk => .inl hk)
      · refine wpList_append_grows w hgd s x t ho e i z size bytes ht hi hz hsize hby hzs hsz (some ⟨g, 0, none⟩) n cap xs hs (fun hh => by cases hh) hown.1 ?_ ad m c news hx hS.len hcells h1 (by omega) h63 hby2 ?_
        · intro b hb j u hj
          injection hb with hb
          subst hb
          exact hown0.cells rfl j u hj
        · intro v' w' h2 h3
          exact h v' w' (own_lower h2 hbase) ((But.ofGrown h3).mono fun k _ hk => by cases hk) (fun k hk => .inr (h2.lt k hk).1)
end
section
open Go.RowKit Go.ChangeShapes Go.WideShapes Go.Deep Go.Joins
instance : DecidableEq (Int × Int × Int × Int) := inferInstance
instance : DecidableEq (Int × Int × Int × Int × Int × Int) := inferInstance
instance : DecidableEq (Int × Int × Int × Int × Int × Int × Int × Int) := inferInstance
/-- a record's cells -/
def entC (x : Int × Int × Int × Int × Int × Int × Int × Int) : List Value := [.int .i64 x.1, .int .i64 x.2.1, .int .i64 x.2.2.1, .int .i64 x.2.2.2.1, .int .i64 x.2.2.2.2.1, .int .i64 x.2.2.2.2.2.1, .int .u64 x.2.2.2.2.2.2.1, .int .u64 x.2.2.2.2.2.2.2]
theorem entC_len (x : Int × Int × Int × Int × Int × Int × Int × Int) : (entC x).length = 8 := rfl
theorem entC_one {l : List (Int × Int × Int × Int × Int × Int × Int × Int)} : ∀ u ∈ l.flatMap entC, u.oneCell' = true := by
  intro u hu
  obtain ⟨x, _, hx⟩ := List.mem_flatMap.1 hu
  unfold entC at hx
  simp at hx
  rcases hx with rfl | rfl | rfl | rfl | rfl | rfl | rfl | rfl <;> rfl
theorem ent_info : (Tryz.prog.info? 53).map (fun i => (i.zero, i.size, i.bytes)) = some (some (.agg #[.int .i64 0, .int .i64 0, .int .i64 0, .int .i64 0, .int .i64 0, .int .i64 0, .int .u64 0, .int .u64 0]), 8, 64) := by kernel_rfl
/-- a row of records of one's own -/
def OwnEnt (w : World) (base : Nat) (v : Value) (n : Nat) (l : List (Int × Int × Int × Int × Int × Int × Int × Int)) : Prop := w.ownsRow base 53 8 v n (l.flatMap entC)
theorem OwnEnt.ext {w w' : World} {base n : Nat} {v : Value} {l : List (Int × Int × Int × Int × Int × Int × Int × Int)} (h : OwnEnt w base v n l) (hx : Ext w w') : OwnEnt w' base v n l := own_keep h hx
theorem OwnEnt.sl {w : World} {base n c : Nat} {A : Option Addr} {l : List (Int × Int × Int × Int × Int × Int × Int × Int)} (h : OwnEnt w base (.slice A n c) n l) : Sl w 8 A n c (l.flatMap entC) := Sl.own h
theorem OwnEnt.in_ {w : World} {base n c : Nat} {A : Option Addr} {l : List (Int × Int × Int × Int × Int × Int × Int × Int)} (h : OwnEnt w base (.slice A n c) n l) : ∀ k o s, A = some ⟨k, o, s⟩ → base ≤ k ∧ k < w.heap.size := by
  intro k o s e'
  subst e'
  exact World.ownsRow.lt h k rfl
theorem OwnEnt.nil (w : World) (base : Nat) : OwnEnt w base (.slice none 0 0) 0 [] := World.ownsRow_nil _ _ _ _
/-- records handed back -/
def RetEnt (l : List (Int × Int × Int × Int × Int × Int × Int × Int)) (w : World) (e : Ending) (w' : World) : Prop := ∃ A c, e = .returned (.slice A l.length c) ∧ (A = none → c = 0) ∧ OwnEnt w' w.heap.size (.slice A l.length c) l.length l ∧ Ext w w'
theorem RetEnt.mk {l : List (Int × Int × Int × Int × Int × Int × Int × Int)} {w w' : World} {v : Value} (h : w'.ownsRow w.heap.size 53 8 v l.length (l.flatMap entC)) (hx : Ext w w') : RetEnt l w (.returned v) w' := by
  obtain ⟨A, c, rfl, h1, h2⟩ := own_parts2 h
  exact ⟨A, c, rfl, h1, h, hx⟩
set_option maxRecDepth 100000 in
theorem eClone_any (A : Option Addr) (c : Nat) (l : List (Int × Int × Int × Int × Int × Int × Int × Int)) (w : World) (h : Sl w 8 A l.length c (l.flatMap entC)) (hn : l.length < 1099511627776) (hnil : A = none → c = 0) :
    Calls Tryz.prog 81 #[.slice A l.length c] w (RetEnt l w) := by
  have q22 : ∀ (w : World) (a : Option Addr) (n c n' c' : Nat), (binOp .eql 22 (.slice a n c) (.slice none n' c')).run Tryz.prog w = .ok (.bool a.isNone) w := fun w a n c n' c' => Go.Lib.run_eql_slice_nil w _ _ a n c n' c' Tryz.underlying22
  rcases A with _ | a
  · have hc := hnil rfl
    subst hc
    have h0 : l.length = 0 := by
      rcases Nat.eq_zero_or_pos l.length with h0 | h0
      · exact h0
      · obtain ⟨_, _, hh, _⟩ := h.at_ h0; cases hh
    have hL : l = [] := List.eq_nil_of_length_eq_zero h0
    subst hL
    clear h h0 hnil hn
    change Calls Tryz.prog 81 #[.slice none 0 0] w _
    go_enter Tryz.func81, Tryz.ntmps81
    go_wp2
    go_ret
    exact RetEnt.mk (l := []) (World.ownsRow_nil _ _ _ _) (Ext.refl _)
  · obtain ⟨i0, hi, hz0, hz1, hz2⟩ := info_parts ent_info
    have HS := Lib.hid h
    clear h hnil
    generalize hL : l.length = n at *
    replace hL := Lib.hid hL
    go_enter Tryz.func81, Tryz.ntmps81
    go_wp2_with (at_builtin; refine wpList_append_sl (w.alloc (.cells #[] 53)) rfl _ _ 22 rfl w.heap.size 53 i0 (.agg #[.int .i64 0, .int .i64 0, .int .i64 0, .int .i64 0, .int .i64 0, .int .i64 0, .int .u64 0, .int .u64 0]) 8 64 Tryz.underlying22 hi hz0 hz1 hz2 rfl (by decide) _ 0 [] (by rfl) (own_empty w _ _) (some a) n c (l.flatMap entC) (by rfl) (HS.out.ext ((Ext.refl _).alloc _)) entC_one (by omega) (by decide) (by simp) ?_; intro v1 w1 hown1 hb1; simp only [Nat.zero_add, List.nil_append] at hown1; have H := Lib.hid (show RetEnt l w (.returned v1) w1 from RetEnt.mk (by rw [hL.out]; exact hown1) (((Ext.refl w).alloc (.cells #[] 53)).below hb1)); clear hown1 hb1)
    go_ret
    exact H.out
set_option maxRecDepth 100000 in
set_option maxHeartbeats 1000000 in
theorem kOverEntries_own (A : Option Addr) (c : Nat) (l : List (Int × Int × Int × Int × Int × Int × Int × Int)) (base : Nat) (w : World) (h : OwnEnt w base (.slice A l.length c) l.length l) :
    Calls Tryz.prog 13 #[.slice A l.length c] w fun r w' => (∃ v, r = .returned v) ∧ But (fun k => ∃ o s, A = some ⟨k, o, s⟩) w w' := by
  rcases h.2 with ⟨h', h0⟩ | ⟨g, cap, cur, h', hbg, _⟩
  · injection h' with h1 h2 h3
    subst h1; subst h3
    rw [h2]
    clear h
    go_enter Tryz.func13, Tryz.ntmps13
    go_wp2
    go_loopg [2] 0 (fun gh i wx => i = .int .i64 0 ∧ wx = w)
    case atStart => exact ⟨rfl, rfl⟩
    case round =>
      obtain ⟨rfl, rfl⟩ := hrel
      go_wp2
      go_end0
      exact ⟨⟨_, rfl⟩, But.refl _ _⟩
  · injection h' with h1 h2 h3
    subst h1; subst h3
    have hs := (Sl.own h).small
    have HO := Lib.hid h
    clear h
    generalize hn : l.length = n at *
    replace hn := Lib.hid hn
    go_enter Tryz.func13, Tryz.ntmps13
    go_wp2
    go_loopg [2] n (fun gh i wx => gh ≤ n ∧ i = .int .i64 ((n - gh : Nat) : Int) ∧ ∃ xs, wx.ownsRow base 53 8 (.slice (some ⟨g, 0, none⟩) n c) n xs ∧ But (fun k => ∃ o s, some (⟨g, 0, none⟩ : Addr) = some ⟨k, o, s⟩) w wx)
    case atStart => exact ⟨Nat.le_refl _, by simp, _, HO.out, But.refl _ _⟩
    case round =>
      obtain ⟨hg, hi, xs, hw, hb⟩ := hrel
      have hl := hw.1
      have HW := Lib.hid hw
      have HBB := Lib.hid hb
      obtain ⟨k, hk⟩ : ∃ k, k = n - gk := ⟨_, rfl⟩
      rw [← hk] at hi
      subst hi
      by_cases hz : gk = 0
      · have hkn : ¬ (k : Int) < n := by omega
        clear hw hb hl hg hk hz
        go_wp2
        go_end0
        exact ⟨⟨_, rfl⟩, by first | exact HBB.out | (have h := HBB.out; simpa using h)⟩
      · have hkn : (k : Int) < n := by omega
        have c0 := (hw.cellAt (k * 8) (by omega)).trans (List.getElem?_eq_getElem (by omega))
        have f0 := hw.frozenAt (k * 8)
        have c1 := (hw.cellAt (k * 8 + 1) (by omega)).trans (List.getElem?_eq_getElem (by omega))
        have f1 := hw.frozenAt (k * 8 + 1)
        have c2 := (hw.cellAt (k * 8 + 2) (by omega)).trans (List.getElem?_eq_getElem (by omega))
        have f2 := hw.frozenAt (k * 8 + 2)
        have c3 := (hw.cellAt (k * 8 + 3) (by omega)).trans (List.getElem?_eq_getElem (by omega))
        have f3 := hw.frozenAt (k * 8 + 3)
        have c4 := (hw.cellAt (k * 8 + 4) (by omega)).trans (List.getElem?_eq_getElem (by omega))
        have f4 := hw.frozenAt (k * 8 + 4)
        have c5 := (hw.cellAt (k * 8 + 5) (by omega)).trans (List.getElem?_eq_getElem (by omega))
        have f5 := hw.frozenAt (k * 8 + 5)
        have c6 := (hw.cellAt (k * 8 + 6) (by omega)).trans (List.getElem?_eq_getElem (by omega))
        have f6 := hw.frozenAt (k * 8 + 6)
        have c7 := (hw.cellAt (k * 8 + 7) (by omega)).trans (List.getElem?_eq_getElem (by omega))
        have f7 := hw.frozenAt (k * 8 + 7)
        generalize xs[k * 8] = u0 at c0
        generalize xs[k * 8 + 1] = u1 at c1
        generalize xs[k * 8 + 2] = u2 at c2
        generalize xs[k * 8 + 3] = u3 at c3
        generalize xs[k * 8 + 4] = u4 at c4
        generalize xs[k * 8 + 5] = u5 at c5
        generalize xs[k * 8 + 6] = u6 at c6
        generalize xs[k * 8 + 7] = u7 at c7
        have HK := Lib.hid (And.intro hk (And.intro hg hz))
        clear hw hb hl hk hg hz
        go_wp2
        go_roundg (gk - 1)
        case measure => have := HK.out; omega
        case rel =>
          exact ⟨by have := HK.out; omega, num_eq (by have := HK.out; omega), _, ((((((((((((((((HW.out).stored (k * 8) (.int .i64 (-77))).1).stored (k * 8 + 1) (.int .i64 0)).1).stored (k * 8 + 2) (.int .i64 0)).1).stored (k * 8 + 3) (.int .i64 0)).1).stored (k * 8 + 4) (.int .i64 0)).1).stored (k * 8 + 5) (.int .i64 0)).1).stored (k * 8 + 6) (.int .u64 0)).1).stored (k * 8 + 7) (.int .u64 0)).1, ((((((((((((((((HBB.out).setCell (p := ⟨g, k * 8, none⟩) ⟨0, none, rfl⟩ _)).setCell (p := ⟨g, k * 8 + 1, none⟩) ⟨0, none, rfl⟩ _)).setCell (p := ⟨g, k * 8 + 2, none⟩) ⟨0, none, rfl⟩ _)).setCell (p := ⟨g, k * 8 + 3, none⟩) ⟨0, none, rfl⟩ _)).setCell (p := ⟨g, k * 8 + 4, none⟩) ⟨0, none, rfl⟩ _)).setCell (p := ⟨g, k * 8 + 5, none⟩) ⟨0, none, rfl⟩ _)).setCell (p := ⟨g, k * 8 + 6, none⟩) ⟨0, none, rfl⟩ _)).setCell (p := ⟨g, k * 8 + 7, none⟩) ⟨0, none, rfl⟩ _)⟩
theorem entC_take {l : List (Int × Int × Int × Int × Int × Int × Int × Int)} {k : Nat} {x : Int × Int × Int × Int × Int × Int × Int × Int} (h : l[k]? = some x) : l.take (k + 1) = l.take k ++ [x] := by
  obtain ⟨hk, rfl⟩ := List.getElem?_eq_some_iff.1 h
  rw [List.take_succ_eq_append_getElem hk]
set_option maxRecDepth 100000 in
theorem entC_eqIn (x0 y0 x1 y1 x2 y2 x3 y3 : Int) (w : World) : (Op.equalIn 9999 51 (.agg #[.int .i64 x0, .int .i64 x1, .int .i64 x2, .int .i64 x3]) (.agg #[.int .i64 y0, .int .i64 y1, .int .i64 y2, .int .i64 y3])).run Tryz.prog w = .ok (x0 == y0 && x1 == y1 && x2 == y2 && x3 == y3) w := by
  have hS : Tryz.prog.underlying 51 = some (.struct (Tryz.prog.fieldsOf 51)) := by kernel_rfl
  have hp : Tryz.prog.stoodInHeld 51 = false := by kernel_rfl
  rw [show (9999 : Nat) = 9998 + 1 from rfl, run_equalIn_agg w 9998 51 _ _ hS hp]
  simp only [Program.fieldsOf, Tryz.underlying51]
  go_simp
  by_cases h0 : x0 = y0 <;> by_cases h1 : x1 = y1 <;> by_cases h2 : x2 = y2 <;> by_cases h3 : x3 = y3 <;> simp [h0, h1, h2, h3]
set_option maxRecDepth 100000 in
theorem entC_eq (x0 y0 x1 y1 x2 y2 x3 y3 x4 y4 x5 y5 x6 y6 x7 y7 : Int) (w : World) : (binOp .eql 53 (.agg #[.int .i64 x0, .int .i64 x1, .int .i64 x2, .int .i64 x3, .int .i64 x4, .int .i64 x5, .int .u64 x6, .int .u64 x7]) (.agg #[.int .i64 y0, .int .i64 y1, .int .i64 y2, .int .i64 y3, .int .i64 y4, .int .i64 y5, .int .u64 y6, .int .u64 y7])).run Tryz.prog w = .ok (.bool (x0 == y0 && x1 == y1 && x2 == y2 && x3 == y3 && x4 == y4 && x5 == y5 && x6 == y6 && x7 == y7)) w := by
  have hS : Tryz.prog.underlying 53 = some (.struct (Tryz.prog.fieldsOf 53)) := by kernel_rfl
  have hp : Tryz.prog.stoodInHeld 53 = false := by kernel_rfl
  rw [run_eql_struct, show (10000 : Nat) = 9999 + 1 from rfl, run_equalIn_agg w 9999 53 _ _ hS hp]
  simp only [Program.fieldsOf, Tryz.underlying53]
  simp [go_sem, entC_eqIn, Op.eqFields]
  by_cases h0 : x0 = y0 <;> by_cases h1 : x1 = y1 <;> by_cases h2 : x2 = y2 <;> by_cases h3 : x3 = y3 <;> by_cases h4 : x4 = y4 <;> by_cases h5 : x5 = y5 <;> by_cases h6 : x6 = y6 <;> by_cases h7 : x7 = y7 <;> simp [h0, h1, h2, h3, h4, h5, h6, h7]
theorem entC_eqg (op : BinOp) (x y : Operand) (xs ys : Array Value) (w : World) : (eqGuard op 53 x y (.agg xs) (.agg ys)).run Tryz.prog w = .ok () w := run_eqGuard_agg w op 53 x y xs ys (by kernel_rfl)
set_option maxRecDepth 100000 in
set_option maxHeartbeats 2000000 in
theorem kSameEntries_any (A B : Option Addr) (n c m d : Nat) (l r : List (Int × Int × Int × Int × Int × Int × Int × Int)) (w : World) (h1 : Sl w 8 A n c (l.flatMap entC)) (h2 : Sl w 8 B m d (r.flatMap entC)) :
    Calls Tryz.prog 12 #[.slice A n c, .slice B m d] w fun e w' => e = .returned (.bool (decide (l = r))) ∧ Ext w w' := by
  have hl := h1.rlen entC_len (by decide)
  have hr := h2.rlen entC_len (by decide)
  have s1 := h1.small
  have s2 := h2.small
  by_cases hnm : n = m
  · subst hnm
    have H1 := Lib.hid h1
    have H2 := Lib.hid h2
    have HL := Lib.hid (And.intro hl hr)
    have e0 : ((n : Int) == (n : Int)) = true := by simp
    have q1 := entC_eq
    have q2 := entC_eqg
    obtain ⟨bb, hbb⟩ : ∃ b, b = decide (l = r) := ⟨_, rfl⟩
    rw [← hbb]
    have HBB := Lib.hid hbb
    clear h1 h2 hl hr hbb
    go_enter Tryz.func12, Tryz.ntmps12
    go_wp2
    go_loopg [5, 6] n (fun gh q i wx => gh ≤ n ∧ i = .int .i64 ((n - gh : Nat) : Int) ∧ (∃ b : Bool, q = .bool b ∧ Hid (b = decide (l.take (n - gh) = r.take (n - gh)))) ∧ Ext w wx)
    case atStart => exact ⟨Nat.le_refl _, by simp, ⟨true, rfl, by rw [Nat.sub_self]; exact Lib.hid (by simp)⟩, Ext.refl _⟩
    case round =>
      obtain ⟨hg, hi, ⟨b, rfl, hb⟩, hx⟩ := hrel
      obtain ⟨k, hk⟩ : ∃ k, k = n - gk := ⟨_, rfl⟩
      rw [← hk] at hi hb
      subst hi
      have XR := Lib.hid hx
      cases b
      · have hne : bb = false := by
          have h := hb.out
          rw [HBB.out]
          by_cases hlr : l = r
          · subst hlr; simp at h
          · exact decide_eq_false hlr
        subst hne
        clear hx hk hg hb
        go_wp2
        go_ret
        exact ⟨rfl, XR.out⟩
      · by_cases hz : gk = 0
        · have hkn : ¬ (k : Int) < n := by omega
          have hne : bb = true := by
            have h := hb.out
            rw [HBB.out]
            rw [List.take_of_length_le (by have := HL.out; omega), List.take_of_length_le (by have := HL.out; omega)] at h
            exact h.symm
          subst hne
          clear hx hk hg hb hz
          go_wp2
          go_ret
          exact ⟨rfl, XR.out⟩
        · have hkn : (k : Int) < n := by omega
          have hk1 : k < l.length := by have := HL.out; omega
          have hk2 : k < r.length := by have := HL.out; omega
          obtain ⟨b1, o1, rfl, hb1, hc1⟩ := H1.out.rec_ entC_len (show 0 < n from by omega)
          obtain ⟨b2, o2, rfl, hb2, hc2⟩ := H2.out.rec_ entC_len (show 0 < n from by omega)
          have x_0 := XR.out.has (hc1 k _ (List.getElem?_eq_getElem hk1) 0 _ rfl)
          have x_1 := XR.out.has (hc1 k _ (List.getElem?_eq_getElem hk1) 1 _ rfl)
          have x_2 := XR.out.has (hc1 k _ (List.getElem?_eq_getElem hk1) 2 _ rfl)
          have x_3 := XR.out.has (hc1 k _ (List.getElem?_eq_getElem hk1) 3 _ rfl)
          have x_4 := XR.out.has (hc1 k _ (List.getElem?_eq_getElem hk1) 4 _ rfl)
          have x_5 := XR.out.has (hc1 k _ (List.getElem?_eq_getElem hk1) 5 _ rfl)
          have x_6 := XR.out.has (hc1 k _ (List.getElem?_eq_getElem hk1) 6 _ rfl)
          have x_7 := XR.out.has (hc1 k _ (List.getElem?_eq_getElem hk1) 7 _ rfl)
          have y_0 := XR.out.has (hc2 k _ (List.getElem?_eq_getElem hk2) 0 _ rfl)
          have y_1 := XR.out.has (hc2 k _ (List.getElem?_eq_getElem hk2) 1 _ rfl)
          have y_2 := XR.out.has (hc2 k _ (List.getElem?_eq_getElem hk2) 2 _ rfl)
          have y_3 := XR.out.has (hc2 k _ (List.getElem?_eq_getElem hk2) 3 _ rfl)
          have y_4 := XR.out.has (hc2 k _ (List.getElem?_eq_getElem hk2) 4 _ rfl)
          have y_5 := XR.out.has (hc2 k _ (List.getElem?_eq_getElem hk2) 5 _ rfl)
          have y_6 := XR.out.has (hc2 k _ (List.getElem?_eq_getElem hk2) 6 _ rfl)
          have y_7 := XR.out.has (hc2 k _ (List.getElem?_eq_getElem hk2) 7 _ rfl)
          have t1 := entC_take (List.getElem?_eq_getElem hk1)
          have t2 := entC_take (List.getElem?_eq_getElem hk2)
          obtain ⟨x, hxx⟩ : ∃ x, x = l[k] := ⟨_, rfl⟩
          obtain ⟨y, hyy⟩ : ∃ y, y = r[k] := ⟨_, rfl⟩
          rw [← hxx] at x_0 x_1 x_2 x_3 x_4 x_5 x_6 x_7 t1
          rw [← hyy] at y_0 y_1 y_2 y_3 y_4 y_5 y_6 y_7 t2
          have hstep : Hid (decide (x = y) = decide (l.take (k + 1) = r.take (k + 1))) := Lib.hid (by
            rw [t1, t2]
            have h := hb.out
            have h3 : l.take k = r.take k := by simpa using h.symm
            rw [h3]
            by_cases hxy : x = y
            · subst hxy; simp
            · rw [decide_eq_false hxy]
              exact (decide_eq_false (fun e => hxy (by simpa using e))).symm)
          obtain ⟨x0, x1, x2, x3, x4, x5, x6, x7⟩ := x
          obtain ⟨y0, y1, y2, y3, y4, y5, y6, y7⟩ := y
          simp only at x_0 y_0 x_1 y_1 x_2 y_2 x_3 y_3 x_4 y_4 x_5 y_5 x_6 y_6 x_7 y_7
          rw [Nat.add_zero] at x_0 y_0
          rw [← Nat.add_assoc] at x_1 y_1 x_2 y_2 x_3 y_3 x_4 y_4 x_5 y_5 x_6 y_6 x_7 y_7
          have HK := Lib.hid (And.intro hk (And.intro hg hz))
          clear hx hk hg hb hz hc1 hc2 t1 t2 hxx hyy hk1 hk2
          go_wp2_with fail
          refine wp_region_held_drew (S := fun w' => w'.cell? ⟨b1, o1 + k * 8, none⟩ = some (.int .i64 x0) ∧ w'.cell? ⟨b1, o1 + k * 8 + 1, none⟩ = some (.int .i64 x1) ∧ w'.cell? ⟨b1, o1 + k * 8 + 2, none⟩ = some (.int .i64 x2) ∧ w'.cell? ⟨b1, o1 + k * 8 + 3, none⟩ = some (.int .i64 x3) ∧ w'.cell? ⟨b1, o1 + k * 8 + 4, none⟩ = some (.int .i64 x4) ∧ w'.cell? ⟨b1, o1 + k * 8 + 5, none⟩ = some (.int .i64 x5) ∧ w'.cell? ⟨b1, o1 + k * 8 + 6, none⟩ = some (.int .u64 x6) ∧ w'.cell? ⟨b1, o1 + k * 8 + 7, none⟩ = some (.int .u64 x7) ∧ w'.cell? ⟨b2, o2 + k * 8, none⟩ = some (.int .i64 y0) ∧ w'.cell? ⟨b2, o2 + k * 8 + 1, none⟩ = some (.int .i64 y1) ∧ w'.cell? ⟨b2, o2 + k * 8 + 2, none⟩ = some (.int .i64 y2) ∧ w'.cell? ⟨b2, o2 + k * 8 + 3, none⟩ = some (.int .i64 y3) ∧ w'.cell? ⟨b2, o2 + k * 8 + 4, none⟩ = some (.int .i64 y4) ∧ w'.cell? ⟨b2, o2 + k * 8 + 5, none⟩ = some (.int .i64 y5) ∧ w'.cell? ⟨b2, o2 + k * 8 + 6, none⟩ = some (.int .u64 y6) ∧ w'.cell? ⟨b2, o2 + k * 8 + 7, none⟩ = some (.int .u64 y7)) (by kernel_rfl) (by first | exact ⟨x_0, x_1, x_2, x_3, x_4, x_5, x_6, x_7, y_0, y_1, y_2, y_3, y_4, y_5, y_6, y_7⟩ | (simp [go_sem, World.cell?_alloc_past, x_0, x_1, x_2, x_3, x_4, x_5, x_6, x_7, y_0, y_1, y_2, y_3, y_4, y_5, y_6, y_7]; done)) (fun hHeld => ?_)
          (refine' take_in 0 rfl (by kernel_rfl) (by kernel_rfl) (by kernel_rfl) (fun _ _ _ h => h) (by rfl) (by assumption) ?_ ?_; rotate_left; focus (intro w hSw; (try dsimp only at hSw); go_simp; try with_reducible rfl)); try simp only [Act.put, List.setIfInBounds_toArray, List.set_cons_zero, List.set_cons_succ]
          (refine' take_in 1 rfl (by kernel_rfl) (by kernel_rfl) (by kernel_rfl) (fun _ _ _ h => h) (by rfl) (by assumption) ?_ ?_; rotate_left; focus (intro w hSw; (try dsimp only at hSw); go_simp; try with_reducible rfl)); try simp only [Act.put, List.setIfInBounds_toArray, List.set_cons_zero, List.set_cons_succ]
          (refine' take_in 2 rfl (by kernel_rfl) (by kernel_rfl) (by kernel_rfl) (fun _ _ _ h => h) (by rfl) (by assumption) ?_ ?_; rotate_left; focus (intro w hSw; (try dsimp only at hSw); go_simp; try with_reducible rfl)); try simp only [Act.put, List.setIfInBounds_toArray, List.set_cons_zero, List.set_cons_succ]
          (refine' take_in 3 rfl (by kernel_rfl) (by kernel_rfl) (by kernel_rfl) (fun _ _ _ h => h) (by rfl) (by assumption) ?_ ?_; rotate_left; focus (intro w hSw; (try dsimp only at hSw); go_simp; try with_reducible rfl)); try simp only [Act.put, List.setIfInBounds_toArray, List.set_cons_zero, List.set_cons_succ]
          (refine' take_in 4 rfl (by kernel_rfl) (by kernel_rfl) (by kernel_rfl) (fun _ _ _ h => h) (by rfl) (by assumption) ?_ ?_; rotate_left; focus (intro w hSw; (try dsimp only at hSw); go_simp; try with_reducible rfl)); try simp only [Act.put, List.setIfInBounds_toArray, List.set_cons_zero, List.set_cons_succ]
          (refine' take_in 5 rfl (by kernel_rfl) (by kernel_rfl) (by kernel_rfl) (fun _ _ _ h => h) (by rfl) (by assumption) ?_ ?_; rotate_left; focus (intro w hSw; (try dsimp only at hSw); go_simp; try with_reducible rfl)); try simp only [Act.put, List.setIfInBounds_toArray, List.set_cons_zero, List.set_cons_succ]
          (refine' take_in 6 rfl (by kernel_rfl) (by kernel_rfl) (by kernel_rfl) (fun _ _ _ h => h) (by rfl) (by assumption) ?_ ?_; rotate_left; focus (intro w hSw; (try dsimp only at hSw); go_simp; try with_reducible rfl)); try simp only [Act.put, List.setIfInBounds_toArray, List.set_cons_zero, List.set_cons_succ]
          (refine' take_in 7 rfl (by kernel_rfl) (by kernel_rfl) (by kernel_rfl) (fun _ _ _ h => h) (by rfl) (by assumption) ?_ ?_; rotate_left; focus (intro w hSw; (try dsimp only at hSw); go_simp; try with_reducible rfl)); try simp only [Act.put, List.setIfInBounds_toArray, List.set_cons_zero, List.set_cons_succ]
          (refine' take_in 8 rfl (by kernel_rfl) (by kernel_rfl) (by kernel_rfl) (fun _ _ _ h => h) (by rfl) (by assumption) ?_ ?_; rotate_left; focus (intro w hSw; (try dsimp only at hSw); go_simp; try with_reducible rfl)); try simp only [Act.put, List.setIfInBounds_toArray, List.set_cons_zero, List.set_cons_succ]
          (refine' take_in 9 rfl (by kernel_rfl) (by kernel_rfl) (by kernel_rfl) (fun _ _ _ h => h) (by rfl) (by assumption) ?_ ?_; rotate_left; focus (intro w hSw; (try dsimp only at hSw); go_simp; try with_reducible rfl)); try simp only [Act.put, List.setIfInBounds_toArray, List.set_cons_zero, List.set_cons_succ]
          refine wpAnyH_done (by kernel_rfl) ?_ _
          go_wp2_with fail
          go_roundg (gk - 1)
          case measure => have := HK.out; omega
          case rel => exact ⟨by have := HK.out; omega, num_eq (by have := HK.out; omega), ⟨_, rfl, Lib.hid (by rw [show n - (gk - 1) = k + 1 from by have := HK.out; omega, ← hstep.out]; simp [Bool.and_assoc, Prod.ext_iff]; try (first | rfl | (apply Bool.eq_iff_iff.2; simp; done)))⟩, (by repeat (first | with_reducible exact XR.out | with_reducible refine Ext.drew ?_ | with_reducible refine Ext.drewN ?_ _ | with_reducible refine Ext.alloc ?_ _ | with_reducible refine Ext.setCell ?_ (by first | omega | (simp; done) | (simp; omega)) _))⟩
  · have hne : ¬ l = r := by rintro rfl; omega
    rw [decide_eq_false hne]
    have e0 : ((n : Int) == (m : Int)) = false := by simp; omega
    clear h1 h2 hl hr hne
    go_enter Tryz.func12, Tryz.ntmps12
    go_wp2
    go_loopg [5, 6] 0 (fun gh q i wx => q = .bool false ∧ i = .int .i64 0 ∧ wx = w)
    case atStart => exact ⟨rfl, rfl, rfl⟩
    case round =>
      obtain ⟨rfl, rfl, rfl⟩ := hrel
      go_wp2
      go_ret
      exact ⟨rfl, Ext.refl _⟩
end
section
open Go.RowKit
/-- a fault's cells -/
def FltAt (w : World) (g : Nat) (v : Value) : Option (Int × Int) → Prop
  | none => v = .pointer none
  | some (e, a) => ∃ fb, v = .pointer (some ⟨fb, 0, none⟩) ∧ (g < fb ∧ fb < w.heap.size) ∧ w.cell? ⟨fb, 0, none⟩ = some (.int .i64 e) ∧ w.cell? ⟨fb, 1, none⟩ = some (.int .i64 a) ∧ ∃ cs z, w.heap[fb]? = some (.cells cs 32 z)
/-- a reader lies at block g: its bytes (below g), its place, its fault -/
structure Rd (w : World) (g : Nat) (L : List Nat) (k : Nat) (flt : Option (Int × Int)) : Prop where
  b : ∃ A c, w.cell? ⟨g, 0, none⟩ = some (.slice A L.length c) ∧ Sl w 1 A L.length c (by_ L) ∧ ∀ b o s, A = some ⟨b, o, s⟩ → b < g
  c1 : w.cell? ⟨g, 1, none⟩ = some (.int .i64 (k : Int))
  c2 : w.cell? ⟨g, 2, none⟩ = some (.bool true)
  c3 : ∃ v, w.cell? ⟨g, 3, none⟩ = some v ∧ FltAt w g v flt
  f1 : w.frozen? ⟨g, 1, none⟩ = false
  f3 : w.frozen? ⟨g, 3, none⟩ = false
  lt : g < w.heap.size
  le : k ≤ L.length
  byt : Byt L
theorem FltAt.keep {w w' : World} {g : Nat} {v : Value} {flt : Option (Int × Int)} (h : FltAt w g v flt) (hb : Below w.heap.size w w') : FltAt w' g v flt := by
  match flt, h with
  | none, h => exact h
  | some (e, a), ⟨fb, h1, h2, h3, h4, cs, z, h5⟩ => exact ⟨fb, h1, ⟨h2.1, by have := hb.size; omega⟩, (hb.cell (p := ⟨fb, 0, none⟩) h2.2).trans h3, (hb.cell (p := ⟨fb, 1, none⟩) h2.2).trans h4, cs, z, (hb.block fb h2.2).trans h5⟩
theorem Rd.keep {w w' : World} {g k : Nat} {L : List Nat} {flt : Option (Int × Int)} (h : Rd w g L k flt) (hb : Below w.heap.size w w') : Rd w' g L k flt := by
  obtain ⟨A, c, h0, h1, h2⟩ := h.b
  obtain ⟨v, h3, h4⟩ := h.c3
  have cl : ∀ o, w'.cell? ⟨g, o, none⟩ = w.cell? ⟨g, o, none⟩ := fun o => hb.cell (p := ⟨g, o, none⟩) h.lt
  have fl : ∀ o, w'.frozen? ⟨g, o, none⟩ = w.frozen? ⟨g, o, none⟩ := fun o => hb.frozen (p := ⟨g, o, none⟩) h.lt
  exact ⟨⟨A, c, (cl 0).trans h0, h1.ext hb, h2⟩, (cl 1).trans h.c1, (cl 2).trans h.c2, ⟨v, (cl 3).trans h3, h4.keep hb⟩, (fl 1).trans h.f1, (fl 3).trans h.f3, by have := h.lt; have := hb.size; omega, h.le, h.byt⟩
theorem Rd.drewN {w : World} {g k : Nat} {L : List Nat} {flt : Option (Int × Int)} (h : Rd w g L k flt) (n : Nat) : Rd (w.drewN n) g L k flt := h.keep (below_drewN (Below.refl _ _) n)
theorem cell_set_other {w : World} {g o b o' : Nat} {v : Value} (h : b ≠ g ∨ o' ≠ o) : (w.setCell ⟨g, o, none⟩ v).cell? ⟨b, o', none⟩ = w.cell? ⟨b, o', none⟩ :=
  World.cell?_setCell_other _ _ _ _ (by intro e; simp at e; omega)
theorem Sl.setOther {w : World} {sz n c g o : Nat} {A : Option Addr} {xs : List Value} {v : Value} (h : Sl w sz A n c xs) (hg : ∀ b o s, A = some ⟨b, o, s⟩ → b < g) : Sl (w.setCell ⟨g, o, none⟩ v) sz A n c xs :=
  ⟨h.1, h.2.1, h.2.2.1, fun hn => by
    obtain ⟨b, o', e, hb, hc⟩ := h.2.2.2 hn
    have := hg _ _ _ e
    exact ⟨b, o', e, by simpa using hb, fun j u hu => (cell_set_other (.inl (by omega))).trans (hc j u hu)⟩⟩
theorem cnone_any (g : Nat) (w : World) (h2 : w.cell? ⟨g, 2, none⟩ = some (.bool true)) :
    Calls Tryz.prog 70 #[.pointer (some ⟨g, 0, none⟩)] w fun r w' => r = .returned (.bool false) ∧ w = w' := by
  go_enter Tryz.func70, Tryz.ntmps70
  go_wp2
  go_ret
  exact ⟨rfl, rfl⟩
/-- a reader's fault behind a Fail -/
def failF (flt : Option (Int × Int)) (e a : Int) : Option (Int × Int) := match flt with | some x => some x | none => if e = 0 then none else some (e, a)
theorem cFail_old (g k : Nat) (L : List Nat) (x : Int × Int) (e a : Int) (w : World) (h : Rd w g L k (some x)) :
    Calls Tryz.prog 37 #[.pointer (some ⟨g, 0, none⟩), .int .i64 e, .int .i64 a] w fun r w' => (∃ v, r = .returned v) ∧ w = w' := by
  have H2 := h.c2
  obtain ⟨v, H3, fb, rfl, _⟩ := h.c3
  clear h
  go_enter Tryz.func37, Tryz.ntmps37
  go_wp2_with fail
  refine (cnone_any g _ H2).mono ?_
  rintro r w1 ⟨rfl, rfl⟩
  go_wp2
  go_end0
  exact ⟨⟨_, rfl⟩, rfl⟩
theorem cFail_zero (g k : Nat) (L : List Nat) (a : Int) (w : World) (h : Rd w g L k none) :
    Calls Tryz.prog 37 #[.pointer (some ⟨g, 0, none⟩), .int .i64 0, .int .i64 a] w fun r w' => (∃ v, r = .returned v) ∧ w = w' := by
  have H2 := h.c2
  obtain ⟨v, H3, rfl⟩ := h.c3
  clear h
  go_enter Tryz.func37, Tryz.ntmps37
  go_wp2_with fail
  refine (cnone_any g _ H2).mono ?_
  rintro r w1 ⟨rfl, rfl⟩
  go_wp2
  go_end0
  exact ⟨⟨_, rfl⟩, rfl⟩
theorem cFail_new (g k : Nat) (L : List Nat) (e a : Int) (he : ¬ e = 0) (w : World) (h : Rd w g L k none) :
    Calls Tryz.prog 37 #[.pointer (some ⟨g, 0, none⟩), .int .i64 e, .int .i64 a] w fun r w' => (∃ v, r = .returned v) ∧ Rd w' g L k (some (e, a)) ∧ But (· = g) w w' := by
  have H2 := h.c2
  obtain ⟨v, H3, rfl⟩ := h.c3
  have F3 := h.f3
  have lt := h.lt
  have HH := Lib.hid h
  have h1 : (e != 0) = true := by simpa using he
  have h2 : (e == 0) = false := by simpa using he
  clear h he
  go_enter Tryz.func37, Tryz.ntmps37
  go_wp2_with fail
  refine (cnone_any g _ H2).mono ?_
  rintro r w1 ⟨rfl, rfl⟩
  go_wp2
  go_end0
  have hh := HH.out
  obtain ⟨A, c, q0, q1, q2⟩ := hh.b
  have hb := (Below.refl (w.setCell ⟨g, 3, none⟩ (.pointer (some ⟨w.heap.size, 0, none⟩))).heap.size (w.setCell ⟨g, 3, none⟩ (.pointer (some ⟨w.heap.size, 0, none⟩)))).alloc (Nat.le_refl _) (.cells #[.int .i64 e, .int .i64 a] 32)
  have hz : (w.setCell ⟨g, 3, none⟩ (.pointer (some ⟨w.heap.size, 0, none⟩))).heap.size = w.heap.size := by simp
  have cl : ∀ o, _ = (w.setCell ⟨g, 3, none⟩ (.pointer (some ⟨w.heap.size, 0, none⟩))).cell? ⟨g, o, none⟩ := fun o => hb.cell (p := ⟨g, o, none⟩) (by rw [hz]; exact lt)
  have fl : ∀ o, _ = (w.setCell ⟨g, 3, none⟩ (.pointer (some ⟨w.heap.size, 0, none⟩))).frozen? ⟨g, o, none⟩ := fun o => hb.frozen (p := ⟨g, o, none⟩) (by rw [hz]; exact lt)
  refine ⟨⟨_, rfl⟩, ⟨⟨A, c, (cl 0).trans ((cell_set_other (.inr (by decide))).trans q0), (q1.setOther q2).ext hb, q2⟩, (cl 1).trans ((cell_set_other (.inr (by decide))).trans hh.c1), (cl 2).trans ((cell_set_other (.inr (by decide))).trans hh.c2), ⟨_, (cl 3).trans (World.cell?_setCell_same' _ _ _ (by rw [H3]; rfl)), w.heap.size, rfl, ⟨lt, by simp⟩, ?_, ?_, ?_⟩, (fl 1).trans (by rw [World.frozen?_setCell]; exact hh.f1), (fl 3).trans (by rw [World.frozen?_setCell]; exact hh.f3), by simp; omega, hh.le, hh.byt⟩, ((But.refl (· = g) w).setCell (p := ⟨g, 3, none⟩) (show g = g from rfl) _).alloc _⟩
  · simp [go_sem]
  · simp [go_sem]
  · exact ⟨_, _, by have := World.alloc_heap_new (w.setCell ⟨g, 3, none⟩ (.pointer (some ⟨w.heap.size, 0, none⟩))) (.cells #[.int .i64 e, .int .i64 a] 32); rwa [hz] at this⟩
theorem cFail_any (g k : Nat) (L : List Nat) (flt : Option (Int × Int)) (e a : Int) (w : World) (h : Rd w g L k flt) :
    Calls Tryz.prog 37 #[.pointer (some ⟨g, 0, none⟩), .int .i64 e, .int .i64 a] w fun r w' => (∃ v, r = .returned v) ∧ Rd w' g L k (failF flt e a) ∧ But (· = g) w w' := by
  rcases flt with _ | x
  · by_cases he : e = 0
    · subst he
      refine (cFail_zero g k L a w h).mono ?_
      rintro r w' ⟨h1, rfl⟩
      exact ⟨h1, h, But.refl _ _⟩
    · have e1 : failF none e a = some (e, a) := if_neg he
      rw [e1]
      exact cFail_new g k L e a he w h
  · refine (cFail_old g k L x e a w h).mono ?_
    rintro r w' ⟨h1, rfl⟩
    exact ⟨h1, h, But.refl _ _⟩
theorem cNewReader_any (A : Option Addr) (c : Nat) (L : List Nat) (hB : Byt L) (w : World) (h : Sl w 1 A L.length c (by_ L)) (hn : L.length < 1099511627776) (hnil : A = none → c = 0) :
    Calls Tryz.prog 31 #[.slice A L.length c] w fun r w' => ∃ g, r = .returned (.pointer (some ⟨g, 0, none⟩)) ∧ w.heap.size ≤ g ∧ Rd w' g L 0 none ∧ Ext w w' := by
  have C := Lib.hid (cClone_any A c L w h hn hnil)
  have HB := Lib.hid hB
  clear h hnil hB
  go_enter Tryz.func31, Tryz.ntmps31
  go_wp2_with fail
  refine C.out.mono ?_
  rintro r w1 ⟨v, rfl, h1, h2⟩
  obtain ⟨A1, c1, rfl, s1⟩ := own_parts h1
  have hlt : ∀ b o s, A1 = some ⟨b, o, s⟩ → b < w1.heap.size := by
    intro b o s e
    subst e
    exact h1.lt b rfl |>.2
  have H := Lib.hid (And.intro h1 (And.intro h2 (And.intro s1 hlt)))
  clear h1 h2 C s1 hlt
  go_wp2_with fail
  go_ret
  obtain ⟨h1, h2, s1, hlt⟩ := H.out
  have hz := h2.size
  exact ⟨w1.heap.size, rfl, hz, ⟨⟨A1, c1, by simp [go_sem], s1.ext ((Ext.refl _).alloc _), hlt⟩, by simp [go_sem], by simp [go_sem], ⟨_, by simp [go_sem], rfl⟩, by simp [go_sem], by simp [go_sem], by simp, Nat.zero_le _, HB.out⟩, h2.alloc _⟩
theorem wrap64_eq (n : Int) : wrap64 n = IntKind.i64.wrap n := by
  rw [IntKind.wrap_i64]
  unfold wrap64
  rfl
/-- a number within bounds -/
def bndE (e n least most : Int) : Int := if e = 0 then (if most < n ∨ (0 < least ∧ n < least) then 3 else 0) else e
set_option maxHeartbeats 1000000 in
theorem cRN1_any (A : Option Addr) (m c : Nat) (V : Value) (n k e : Int) (n0 : 0 ≤ n) (n1 : n < 18446744073709551616) (mb lb : Nat) (least most : Int) (h0 : 0 ≤ least) (h1 : least ≤ 9223372036854775807) (h2 : 0 ≤ most) (h3 : most ≤ 9223372036854775807) (w : World)
    (C : Hid (Calls Tryz.prog 69 #[.slice A m c] w fun r w' => r = .returned (.tuple #[.int .u64 n, .int .i64 k, .int .i64 e]) ∧ w = w')) (cm : w.cell? ⟨mb, 0, none⟩ = some (.int .i64 most)) (cl : w.cell? ⟨lb, 0, none⟩ = some (.int .i64 least)) :
    Calls Tryz.prog 68 #[.slice A m c, .pointer (some ⟨mb, 0, none⟩), .pointer (some ⟨lb, 0, none⟩)] w fun r w' => r = .returned (.tuple #[.int .i64 (IntKind.i64.wrap n), .int .i64 k, .int .i64 (bndE e n least most)]) ∧ w = w' := by
  unfold bndE
  by_cases he : e = 0
  · subst he
    rw [if_pos rfl]
    have hmf : decide (most < 0) = false := decide_eq_false (by omega)
    by_cases hm : most < n
    · rw [if_pos (.inl hm)]
      go_enter Tryz.func68, Tryz.ntmps68
      go_wp2_with fail
      refine C.out.mono ?_
      rintro r w1 ⟨rfl, rfl⟩
      go_wp2
      exact bodyPost_ret (v := .tuple #[.int .i64 (IntKind.i64.wrap n), .int .i64 k, .int .i64 3]) (by simp [results, Tryz.results68, go_sem]; first | rfl | exact wrap64_eq n | exact (IntWalk.i64_in n (by omega)).symm) rfl ⟨rfl, rfl⟩
    · by_cases hl : 0 < least
      · by_cases hn : n < least
        · rw [if_pos (.inr ⟨hl, hn⟩)]
          go_enter Tryz.func68, Tryz.ntmps68
          go_wp2_with fail
          refine C.out.mono ?_
          rintro r w1 ⟨rfl, rfl⟩
          go_wp2
          exact bodyPost_ret (v := .tuple #[.int .i64 (IntKind.i64.wrap n), .int .i64 k, .int .i64 3]) (by simp [results, Tryz.results68, go_sem]; first | rfl | exact wrap64_eq n | exact (IntWalk.i64_in n (by omega)).symm) rfl ⟨rfl, rfl⟩
        · rw [if_neg (by omega)]
          go_enter Tryz.func68, Tryz.ntmps68
          go_wp2_with fail
          refine C.out.mono ?_
          rintro r w1 ⟨rfl, rfl⟩
          go_wp2
          exact bodyPost_ret (v := .tuple #[.int .i64 (IntKind.i64.wrap n), .int .i64 k, .int .i64 0]) (by simp [results, Tryz.results68, go_sem]; first | rfl | exact wrap64_eq n | exact (IntWalk.i64_in n (by omega)).symm) rfl ⟨rfl, rfl⟩
      · rw [if_neg (by omega)]
        go_enter Tryz.func68, Tryz.ntmps68
        go_wp2_with fail
        refine C.out.mono ?_
        rintro r w1 ⟨rfl, rfl⟩
        go_wp2
        exact bodyPost_ret (v := .tuple #[.int .i64 (IntKind.i64.wrap n), .int .i64 k, .int .i64 0]) (by simp [results, Tryz.results68, go_sem]; first | rfl | exact wrap64_eq n | exact (IntWalk.i64_in n (by omega)).symm) rfl ⟨rfl, rfl⟩
  · rw [if_neg he]
    have hef : (e == 0) = false := beq_false_of_ne he
    go_enter Tryz.func68, Tryz.ntmps68
    go_wp2_with fail
    refine C.out.mono ?_
    rintro r w1 ⟨rfl, rfl⟩
    go_wp2
    exact bodyPost_ret (v := .tuple #[.int .i64 (IntKind.i64.wrap n), .int .i64 k, .int .i64 e]) (by simp [results, Tryz.results68, go_sem]; first | rfl | exact wrap64_eq n | exact (IntWalk.i64_in n (by omega)).symm) rfl ⟨rfl, rfl⟩
theorem sizeOf_u8 (w : World) : (sizeOf (Tryz.prog.elem 23)).run Tryz.prog w = .ok 1 w := by
  obtain ⟨i0, hi, hz0, hz1, hz2⟩ := info_parts u8_info
  have e : Tryz.prog.elem 23 = 5 := by kernel_rfl
  rw [e]
  simp [sizeOf, typeInfo, hi, hz1]
theorem Rd.setAt {w : World} {g k : Nat} {L : List Nat} {flt : Option (Int × Int)} (h : Rd w g L k flt) (j : Nat) (hj : j ≤ L.length) : Rd (w.setCell ⟨g, 1, none⟩ (.int .i64 (j : Int))) g L j flt := by
  obtain ⟨A, c, h0, h1, h2⟩ := h.b
  obtain ⟨v, h3, h4⟩ := h.c3
  have c1 := h.c1
  refine ⟨⟨A, c, (cell_set_other (.inr (by decide))).trans h0, h1.setOther h2, h2⟩, World.cell?_setCell_same' _ _ _ (by rw [c1]; rfl), (cell_set_other (.inr (by decide))).trans h.c2, ⟨v, (cell_set_other (.inr (by decide))).trans h3, ?_⟩, by rw [World.frozen?_setCell]; exact h.f1, by rw [World.frozen?_setCell]; exact h.f3, by simpa using h.lt, hj, h.byt⟩
  match flt, h4 with
  | none, h4 => exact h4
  | some (e, a), ⟨fb, k1, k2, k3, k4, cs, z, k5⟩ => exact ⟨fb, k1, ⟨k2.1, by simpa using k2.2⟩, (cell_set_other (.inl (by omega))).trans k3, (cell_set_other (.inl (by omega))).trans k4, cs, z, (Below.heap_setCell _ _ _ _ (by simp; omega)).trans k5⟩
/-- a store into a block that is none of the reader's -/
theorem Rd.setOther {w : World} {g k : Nat} {L : List Nat} {flt : Option (Int × Int)} (h : Rd w g L k flt) {b o : Nat} {v : Value} (hg : g < b) (ht : ∃ cs t z, w.heap[b]? = some (.cells cs t z) ∧ t ≠ 32) : Rd (w.setCell ⟨b, o, none⟩ v) g L k flt := by
  obtain ⟨A, c, h0, h1, h2⟩ := h.b
  obtain ⟨v3, h3, h4⟩ := h.c3
  have ne : ∀ o', g ≠ b ∨ o' ≠ o := fun _ => .inl (by omega)
  refine ⟨⟨A, c, (cell_set_other (ne _)).trans h0, h1.setOther (fun b' o' s e => by have := h2 b' o' s e; omega), h2⟩, (cell_set_other (ne _)).trans h.c1, (cell_set_other (ne _)).trans h.c2, ⟨v3, (cell_set_other (ne _)).trans h3, ?_⟩, by rw [World.frozen?_setCell]; exact h.f1, by rw [World.frozen?_setCell]; exact h.f3, by simpa using h.lt, h.le, h.byt⟩
  match flt, h4 with
  | none, h4 => exact h4
  | some (e, a), ⟨fb, k1, k2, k3, k4, cs, z, k5⟩ =>
    have hne : fb ≠ b := by
      intro hh
      subst hh
      obtain ⟨cs', t', z', k6, k7⟩ := ht
      rw [k5] at k6
      injection k6 with k6
      injection k6 with _ k8
      exact k7 k8.symm
    exact ⟨fb, k1, ⟨k2.1, by simpa using k2.2⟩, (cell_set_other (.inl hne)).trans k3, (cell_set_other (.inl hne)).trans k4, cs, z, (Below.heap_setCell _ _ _ _ (by simpa using hne)).trans k5⟩
theorem by_drop (L : List Nat) (k : Nat) : (by_ L).drop k = by_ (L.drop k) := by unfold by_; rw [List.map_drop]
theorem Byt.drop {L : List Nat} (h : Byt L) (k : Nat) : Byt (L.drop k) := fun x hx => h x (List.mem_of_mem_drop hx)
theorem Sl.bdrop {w : World} {A : Option Addr} {n c k : Nat} {L : List Nat} (h : Sl w 1 A n c (by_ L)) (hk : k ≤ n) : Sl w 1 (if c = k then A else A.map (·.add (k * 1))) (n - k) (c - k) (by_ (L.drop k)) := by
  have := h.drop hk
  rw [Nat.mul_one, by_drop] at this
  simpa using this
theorem numGo_lt : ∀ (l : List Nat) (i acc : Nat), i ≤ 9 → acc < 2 ^ (7 * i) → (numGo l i acc).1 < 18446744073709551616 ∧ (numGo l i acc).2.1 ≤ i + l.length ∧ 0 ≤ (numGo l i acc).2.2 ∧ (numGo l i acc).2.2 ≤ 6
  | [], i, acc, _, _ => by simp [numGo]
  | c :: l, i, acc, hi, ha => by
    rw [numGo]
    split
    · simp
    · rename_i hn
      have hs := acc_small (c := c % 128) ha hi (by omega) (by omega)
      split
      · exact ⟨hs.2, by first | (simp; done) | (simp; omega), by simp, by simp⟩
      · have h := numGo_lt l (i + 1) (acc + c % 128 * 2 ^ (7 * i)) (by omega) (acc_step ha (by omega))
        exact ⟨h.1, by have := h.2.1; simp; omega, h.2.2⟩
/-- what a read leaves -/
def RdP (g : Nat) (L : List Nat) (W : World) (v : Int) (k : Nat) (flt : Option (Int × Int)) (r : Ending) (w' : World) : Prop := r = .returned (.int .i64 v) ∧ Rd w' g L k flt ∧ But (· = g) W w'
theorem creadI_old (g k : Nat) (L : List Nat) (x : Int × Int) (v : Value) (w : World) (h : Rd w g L k (some x)) :
    Calls Tryz.prog 67 #[.pointer (some ⟨g, 0, none⟩), v] w fun r w' => r = .returned (.int .i64 0) ∧ w = w' := by
  have H2 := h.c2
  obtain ⟨v, H3, fb, rfl, _⟩ := h.c3
  clear h
  go_enter Tryz.func67, Tryz.ntmps67
  go_wp2_with fail
  refine (cnone_any g _ H2).mono ?_
  rintro r w1 ⟨rfl, rfl⟩
  go_wp2
  go_ret
  exact ⟨rfl, rfl⟩
set_option maxRecDepth 100000 in
set_option maxHeartbeats 1000000 in
theorem creadI_go (g k : Nat) (L : List Nat) (n kk e : Int) (mb lb : Nat) (W : World) (h : Rd W g L k none) (hle : 0 ≤ kk) (hk2 : (k : Int) + kk ≤ L.length) (hL : L.length < 1099511627776)
    (CN : Hid (∀ (A : Option Addr) (c : Nat) (w : World), Sl w 1 A (L.length - k) c (by_ (L.drop k)) → (∀ b, w.cell? b = W.cell? b) → Calls Tryz.prog 68 #[.slice A (L.length - k) c, .pointer (some ⟨mb, 0, none⟩), .pointer (some ⟨lb, 0, none⟩)] w fun r w' => r = .returned (.tuple #[.int .i64 n, .int .i64 kk, .int .i64 e]) ∧ w = w')) :
    Calls Tryz.prog 67 #[.pointer (some ⟨g, 0, none⟩), .func (.func 68) #[] #[.pointer (some ⟨mb, 0, none⟩), .pointer (some ⟨lb, 0, none⟩)]] W fun r w' => r = .returned (.int .i64 (if e = 0 then n else 0)) ∧ Rd w' g L (if e = 0 then k + kk.toNat else k) (failF none e k) ∧ But (· = g) W w' := by
  have H2 := h.c2
  have H1 := h.c1
  obtain ⟨v, H3, rfl⟩ := h.c3
  obtain ⟨A, c, H0, hs, _⟩ := h.b
  have hkl := h.le
  have hd := Lib.hid (hs.bdrop hkl)
  have F1 := h.f1
  have HH := Lib.hid h
  have hsm := hs.small
  have hcs : L.length ≤ c := hs.2.1
  clear h hs
  generalize hN : L.length = N at *
  replace hN := Lib.hid hN
  obtain ⟨A2, hA2⟩ : ∃ A2, A2 = (if c = k then A else A.map (·.add (k * 1))) := ⟨_, rfl⟩
  rw [← hA2] at hd
  have hsl : ∀ w, (Instr.slice 23 (.slice A N c) (some (.int .i64 (k : Int))) none none).run Tryz.prog w = .ok (.slice A2 (N - k) (c - k)) w := by
    intro w
    have hq := run_slice_l (P := Tryz.prog) (w := w) 23 A N c (by kernel_rfl) .i64 (k : Int) (by omega) (by omega)
    rw [hq, hA2]
    simp [go_sem, sizeOf_u8 w]
  replace hA2 := Lib.hid hA2
  have hkI : (k : Int) ≤ N := by omega
  by_cases he : e = 0
  · subst he
    rw [if_pos rfl, if_pos rfl]
    show Calls _ _ _ _ (RdP g L W n (k + kk.toNat) none)
    go_enter Tryz.func67, Tryz.ntmps67
    go_wp2_with fail
    refine (cnone_any g _ H2).mono ?_
    rintro r w1 ⟨rfl, rfl⟩
    go_wp2_with fail
    go_quiet ((go_at_call 68; exact Calls.quiet_of_same ((CN.out A2 (c - k) _ (hd.out.ext ((Ext.refl _).drewN _)) (fun _ => rfl)).mono fun r w' h => ⟨h.1, h.2.symm⟩)))
    have hkk : (k : Int) + kk < 9223372036854775808 := by omega
    go_wp2
    go_ret
    refine ⟨rfl, ?_, ((But.refl (· = g) W).drewN nq).setCell (p := ⟨g, 1, none⟩) (show g = g from rfl) _⟩
    have hh := (HH.out.drewN nq).setAt (k + kk.toNat) (by rw [hN.out]; omega)
    rw [show ((k + kk.toNat : Nat) : Int) = (k : Int) + kk from by omega] at hh
    exact hh
  · have hef : (e == 0) = false := beq_false_of_ne he
    rw [if_neg he, if_neg he]
    show Calls _ _ _ _ (RdP g L W 0 k (failF none e k))
    go_enter Tryz.func67, Tryz.ntmps67
    go_wp2_with fail
    refine (cnone_any g _ H2).mono ?_
    rintro r w1 ⟨rfl, rfl⟩
    go_wp2_with fail
    go_quiet ((go_at_call 68; exact Calls.quiet_of_same ((CN.out A2 (c - k) _ (hd.out.ext ((Ext.refl _).drewN _)) (fun _ => rfl)).mono fun r w' h => ⟨h.1, h.2.symm⟩)))
    have CF := Lib.hid (cFail_any g k L none e k _ (HH.out.drewN nq))
    clear he
    go_wp2_with fail
    refine CF.out.mono ?_
    rintro r w1 ⟨⟨v, rfl⟩, hr, hb⟩
    have HR := Lib.hid (And.intro hr hb)
    clear hr hb CF
    go_wp2_with fail
    go_ret
    exact ⟨rfl, HR.out.1, ((But.refl _ W).drewN nq).trans HR.out.2⟩
/-- what 'N' reads: the number, the place behind it, the fault -/
def rnE (L : List Nat) (k : Nat) (least most : Int) : Int := bndE (numGo (L.drop k) 0 0).2.2 ((numGo (L.drop k) 0 0).1 : Int) least most
def rnV (L : List Nat) (k : Nat) (flt : Option (Int × Int)) (least most : Int) : Int := if flt = none ∧ rnE L k least most = 0 then ((numGo (L.drop k) 0 0).1 : Int) else 0
def rnK (L : List Nat) (k : Nat) (flt : Option (Int × Int)) (least most : Int) : Nat := if flt = none ∧ rnE L k least most = 0 then k + (numGo (L.drop k) 0 0).2.1 else k
def rnF (L : List Nat) (k : Nat) (flt : Option (Int × Int)) (least most : Int) : Option (Int × Int) := if flt = none then failF none (rnE L k least most) k else flt
theorem rnE_zero {L : List Nat} {k : Nat} {least most : Int} (h : rnE L k least most = 0) : (numGo (L.drop k) 0 0).2.2 = 0 ∧ ((numGo (L.drop k) 0 0).1 : Int) ≤ most := by
  unfold rnE bndE at h
  split at h
  · rename_i h0
    split at h
    · omega
    · exact ⟨h0, by omega⟩
  · contradiction
theorem cRN_any (g k : Nat) (L : List Nat) (flt : Option (Int × Int)) (least most : Int) (h0 : 0 ≤ least) (h1 : least ≤ 9223372036854775807) (h2 : 0 ≤ most) (h3 : most ≤ 9223372036854775807) (hL : L.length < 1099511627776) (w : World) (h : Rd w g L k flt) :
    Calls Tryz.prog 32 #[.pointer (some ⟨g, 0, none⟩), .int .i64 least, .int .i64 most] w (RdP g L w (rnV L k flt least most) (rnK L k flt least most) (rnF L k flt least most)) := by
  have hmf : ∀ (fn : Fn) (first cap : Array Value) (w : World), (Instr.makeFunc fn first cap).run Tryz.prog w = .ok (.func fn first cap) w := fun _ _ _ _ => rfl
  have hb : Below w.heap.size w ((w.alloc (.cells #[.int .i64 least] 3)).alloc (.cells #[.int .i64 most] 3)) := ((Below.refl _ w).alloc (Nat.le_refl _) _).alloc (by simp) _
  have hr := h.keep hb
  have hbg : But (· = g) w ((w.alloc (.cells #[.int .i64 least] 3)).alloc (.cells #[.int .i64 most] 3)) := But.ofExt hb
  have main : Calls Tryz.prog 67 #[.pointer (some ⟨g, 0, none⟩), .func (.func 68) #[] #[.pointer (some ⟨w.heap.size + 1, 0, none⟩), .pointer (some ⟨w.heap.size, 0, none⟩)]] ((w.alloc (.cells #[.int .i64 least] 3)).alloc (.cells #[.int .i64 most] 3)) (RdP g L w (rnV L k flt least most) (rnK L k flt least most) (rnF L k flt least most)) := by
    rcases flt with _ | x
    · have hn := numGo_lt (L.drop k) 0 0 (by decide) (by decide)
      have hc := @cnumber_any
      have hkl := h.le
      have hlen : (L.drop k).length = L.length - k := List.length_drop ..
      have C := creadI_go g k L (IntKind.i64.wrap ((numGo (L.drop k) 0 0).1 : Int)) ((numGo (L.drop k) 0 0).2.1 : Int) (rnE L k least most) (w.heap.size + 1) w.heap.size _ hr (by omega) (by have := hn.2.1; omega) hL
        (Lib.hid fun A c w' hs hcell => by
          have hq : (L.length - k) = (L.drop k).length := hlen.symm
          refine cRN1_any A _ c (.bool true) _ _ _ (by omega) (by omega) (w.heap.size + 1) w.heap.size least most h0 h1 h2 h3 w' (Lib.hid ?_) ?_ ?_
          · exact cnumber_any A (L.length - k) c (L.drop k) w' hs (h.byt.drop k)
          · rw [hcell]; simp [go_sem]
          · rw [hcell]; simp [go_sem])
      refine C.mono ?_
      rintro r w' ⟨hr1, hr2, hr3⟩
      have hb3 := hbg.trans hr3
      by_cases he : rnE L k least most = 0
      · obtain ⟨z1, z2⟩ := rnE_zero he
        rw [if_pos he] at hr1 hr2
        rw [IntWalk.i64_in _ (by omega)] at hr1
        rw [he] at hr2
        refine ⟨?_, ?_, hb3⟩
        · rw [hr1]; unfold rnV; rw [if_pos ⟨rfl, he⟩]
        · unfold rnK rnF; rw [if_pos ⟨rfl, he⟩, if_pos rfl, he]; simpa using hr2
      · rw [if_neg he] at hr1 hr2
        refine ⟨?_, ?_, hb3⟩
        · rw [hr1]; unfold rnV; rw [if_neg (fun hh => he hh.2)]
        · unfold rnK rnF; rw [if_neg (fun hh => he hh.2), if_pos rfl]; exact hr2
    · refine (creadI_old g k L x _ _ hr).mono ?_
      rintro r w' ⟨rfl, rfl⟩
      refine ⟨?_, ?_, hbg⟩
      · unfold rnV; rw [if_neg (fun hh => by cases hh.1)]
      · unfold rnK rnF; rw [if_neg (fun hh => by cases hh.1), if_neg (fun hh => by cases hh)]; exact hr
  replace main := Lib.hid main
  clear h hb hr hbg
  go_enter Tryz.func32, Tryz.ntmps32
  go_wp2_with fail
  refine main.out.mono ?_
  rintro r w1 ⟨rfl, hr1, hr2⟩
  have H := Lib.hid (show RdP g L w (rnV L k flt least most) (rnK L k flt least most) (rnF L k flt least most) (.returned (.int .i64 (rnV L k flt least most))) w1 from ⟨rfl, hr1, hr2⟩)
  clear hr1 hr2 main
  go_wp2_with fail
  go_ret
  exact H.out
def atF (flt : Option (Int × Int)) (k : Nat) : Int := match flt with | some x => x.2 | none => k
theorem cAt_any (g k : Nat) (L : List Nat) (flt : Option (Int × Int)) (w : World) (h : Rd w g L k flt) :
    Calls Tryz.prog 33 #[.pointer (some ⟨g, 0, none⟩)] w fun r w' => r = .returned (.int .i64 (atF flt k)) ∧ w = w' := by
  have H2 := h.c2
  have H1 := h.c1
  obtain ⟨v, H3, hv⟩ := h.c3
  clear h
  rcases flt with _ | ⟨e, a⟩
  · obtain rfl := hv
    go_enter Tryz.func33, Tryz.ntmps33
    go_wp2_with fail
    refine (cnone_any g _ H2).mono ?_
    rintro r w1 ⟨rfl, rfl⟩
    go_wp2
    go_ret
    exact ⟨rfl, rfl⟩
  · obtain ⟨fb, rfl, _, K0, K1, _⟩ := hv
    go_enter Tryz.func33, Tryz.ntmps33
    go_wp2_with fail
    refine (cnone_any g _ H2).mono ?_
    rintro r w1 ⟨rfl, rfl⟩
    go_wp2
    go_ret
    exact ⟨rfl, rfl⟩
def leftF (flt : Option (Int × Int)) (k n : Nat) : Int := match flt with | some _ => 0 | none => (n : Int) - k
theorem cLeft_any (g k : Nat) (L : List Nat) (flt : Option (Int × Int)) (w : World) (h : Rd w g L k flt) (hL : L.length < 1099511627776) :
    Calls Tryz.prog 73 #[.pointer (some ⟨g, 0, none⟩)] w fun r w' => r = .returned (.int .i64 (leftF flt k L.length)) ∧ Ext w w' := by
  have H2 := h.c2
  have H1 := h.c1
  obtain ⟨A, c, H0, _⟩ := h.b
  obtain ⟨v, H3, hv⟩ := h.c3
  have hle := h.le
  clear h
  generalize L.length = N at *
  rcases flt with _ | ⟨e, a⟩
  · obtain rfl := hv
    have eq1 : IntKind.i64.wrap ((N : Int) - k) = N - k := IntWalk.i64_in _ (by omega)
    go_enter Tryz.func73, Tryz.ntmps73
    go_wp2_with fail
    refine (cnone_any g _ H2).mono ?_
    rintro r w1 ⟨rfl, rfl⟩
    go_wp2_with fail
    go_quiet (fail)
    go_wp2
    go_ret
    exact ⟨rfl, (Ext.refl _).drewN _⟩
  · obtain ⟨fb, rfl, _, K0, K1, _⟩ := hv
    go_enter Tryz.func73, Tryz.ntmps73
    go_wp2_with fail
    refine (cnone_any g _ H2).mono ?_
    rintro r w1 ⟨rfl, rfl⟩
    go_wp2
    go_ret
    exact ⟨rfl, Ext.refl _⟩
def endF (flt : Option (Int × Int)) (k n : Nat) : Int × Int := match flt with | some x => x | none => if k < n then (4, k) else (0, 0)
theorem cEnd_any (g k : Nat) (L : List Nat) (flt : Option (Int × Int)) (w : World) (h : Rd w g L k flt) (hL : L.length < 1099511627776) :
    Calls Tryz.prog 39 #[.pointer (some ⟨g, 0, none⟩)] w fun r w' => r = .returned (.agg #[.int .i64 (endF flt k L.length).1, .int .i64 (endF flt k L.length).2]) ∧ Ext w w' := by
  have hb := (Below.refl w.heap.size w).alloc (Nat.le_refl _) (.cells #[.int .i64 0, .int .i64 0] 32)
  have h' := h.keep hb
  have H2 := h'.c2
  have H1 := h'.c1
  obtain ⟨A, c, H0, _⟩ := h'.b
  obtain ⟨v, H3, hv⟩ := h'.c3
  have hle := h.le
  clear h h' hb
  generalize L.length = N at *
  rcases flt with _ | ⟨e, a⟩
  · obtain rfl := hv
    by_cases hk : k < N
    · rw [show endF none k N = (4, (k : Int)) from if_pos hk]
      have hd : decide (k < N) = true := decide_eq_true hk
      have hd2 : decide ((k : Int) < (N : Int)) = true := decide_eq_true (by omega)
      go_enter Tryz.func39, Tryz.ntmps39
      go_wp2_with fail
      refine (cnone_any g _ H2).mono ?_
      rintro r w1 ⟨rfl, rfl⟩
      go_wp2_with fail
      go_quiet (fail)
      go_wp2
      refine bodyPost_ret (v := .agg #[.int .i64 4, .int .i64 (k : Int)]) (by simp [results, Tryz.results39, go_sem]; try rfl) rfl ⟨rfl, ?_⟩
      exact (by repeat (first | assumption | exact Ext.refl _ | refine Ext.drew ?_ | refine Ext.drewN ?_ _ | refine Ext.alloc ?_ _ | refine Ext.setCell ?_ (by first | omega | (simp; done) | (simp; omega)) _ | refine Ext.trans ?_ (by assumption)))
    · rw [show endF none k N = (0, 0) from if_neg hk]
      have hd : decide (k < N) = false := decide_eq_false hk
      have hd2 : decide ((k : Int) < (N : Int)) = false := decide_eq_false (by omega)
      go_enter Tryz.func39, Tryz.ntmps39
      go_wp2_with fail
      refine (cnone_any g _ H2).mono ?_
      rintro r w1 ⟨rfl, rfl⟩
      go_wp2_with fail
      go_quiet (fail)
      go_wp2
      refine bodyPost_ret (v := .agg #[.int .i64 0, .int .i64 0]) (by simp [results, Tryz.results39, go_sem]; try rfl) rfl ⟨rfl, ?_⟩
      exact (by repeat (first | assumption | exact Ext.refl _ | refine Ext.drew ?_ | refine Ext.drewN ?_ _ | refine Ext.alloc ?_ _ | refine Ext.setCell ?_ (by first | omega | (simp; done) | (simp; omega)) _ | refine Ext.trans ?_ (by assumption)))
  · obtain ⟨fb, rfl, _, K0, K1, _⟩ := hv
    go_enter Tryz.func39, Tryz.ntmps39
    go_wp2_with fail
    refine (cnone_any g _ H2).mono ?_
    rintro r w1 ⟨rfl, rfl⟩
    go_wp2
    refine bodyPost_ret (v := .agg #[.int .i64 e, .int .i64 a]) (by simp [results, Tryz.results39, go_sem]; try rfl) rfl ⟨rfl, ?_⟩
    exact (by repeat (first | assumption | exact Ext.refl _ | refine Ext.drew ?_ | refine Ext.drewN ?_ _ | refine Ext.alloc ?_ _ | refine Ext.setCell ?_ (by first | omega | (simp; done) | (simp; omega)) _ | refine Ext.trans ?_ (by assumption)))
end
section
open Go.RowKit
def outB (n lo hi : Int) : Bool := decide (n < lo) || decide (hi < n)
theorem tout_any (n lo hi : Int) (w : World) :
    Calls Tryz.prog 87 #[.int .i64 n, .int .i64 lo, .int .i64 hi] w fun r w' => r = .returned (.bool (outB n lo hi)) ∧ w = w' := by
  unfold outB
  by_cases h1 : n < lo
  · have e : (decide (n < lo) || decide (hi < n)) = true := by simp [h1]
    rw [e]
    go_enter Tryz.func87, Tryz.ntmps87
    go_wp2
    go_ret
    exact ⟨rfl, rfl⟩
  · obtain ⟨b, hb⟩ : ∃ b, decide (hi < n) = b := ⟨_, rfl⟩
    have e : (decide (n < lo) || decide (hi < n)) = b := by simp [h1, hb]
    rw [e]
    have h1' : decide (n < lo) = false := decide_eq_false h1
    clear h1 e
    go_enter Tryz.func87, Tryz.ntmps87
    go_wp2
    go_ret
    exact ⟨rfl, rfl⟩
theorem tnoone_any (n : Int) (w : World) :
    Calls Tryz.prog 85 #[.int .i64 n] w fun r w' => r = .returned (.bool (outB n 0 31)) ∧ w = w' := by
  go_enter Tryz.func85, Tryz.ntmps85
  go_wp2_with fail
  refine (tout_any n 0 31 _).mono ?_
  rintro r w1 ⟨rfl, rfl⟩
  go_wp2
  go_ret
  exact ⟨rfl, rfl⟩
theorem tnowhen_any (n : Int) (w : World) :
    Calls Tryz.prog 86 #[.int .i64 n] w fun r w' => r = .returned (.bool (outB n 1 4294967296)) ∧ w = w' := by
  go_enter Tryz.func86, Tryz.ntmps86
  go_wp2_with fail
  refine (tout_any n 1 4294967296 _).mono ?_
  rintro r w1 ⟨rfl, rfl⟩
  go_wp2
  go_ret
  exact ⟨rfl, rfl⟩
/-- a rule's cells -/
def rc (x : Bool × Int) : List Value := [.bool x.1, .int .i64 x.2]
theorem rc_len (x : Bool × Int) : (rc x).length = 2 := rfl
def firstR : List (Bool × Int) → Int
  | [] => 0
  | x :: l => if x.1 = true then x.2 else firstR l
theorem firstR_drop {l : List (Bool × Int)} {k : Nat} {x : Bool × Int} (h : l[k]? = some x) : firstR (l.drop k) = if x.1 = true then x.2 else firstR (l.drop (k + 1)) := by
  obtain ⟨hk, rfl⟩ := List.getElem?_eq_some_iff.1 h
  rw [List.drop_eq_getElem_cons hk]
  rfl
set_option maxHeartbeats 1000000 in
theorem tfirst_any (A : Option Addr) (n c : Nat) (l : List (Bool × Int)) (w : World) (h : Sl w 2 A n c (l.flatMap rc)) :
    Calls Tryz.prog 84 #[.slice A n c] w fun r w' => r = .returned (.int .i64 (firstR l)) ∧ Ext w w' := by
  have hs := h.small
  obtain ⟨V, hV⟩ : ∃ V, V = firstR l := ⟨_, rfl⟩
  rw [← hV]
  have HV := Lib.hid hV
  have HL := Lib.hid (h.rlen rc_len (by decide))
  have HH := Lib.hid h
  clear hV h
  go_enter Tryz.func84, Tryz.ntmps84
  go_wp2
  go_loopg [7] n (fun g i wx => g ≤ n ∧ Hid (V = firstR (l.drop (n - g))) ∧ i = .int .i64 ((n - g : Nat) : Int) ∧ Ext w wx)
  case atStart => exact ⟨Nat.le_refl _, by show V = firstR (l.drop (n - n)); rw [Nat.sub_self]; exact HV.out, by simp, Ext.refl _⟩
  case round =>
    obtain ⟨hg, H, hi, hx⟩ := hrel
    obtain ⟨k, hk⟩ : ∃ k, k = n - gk := ⟨_, rfl⟩
    rw [← hk] at H hi
    subst hi
    have XW := Lib.hid hx
    by_cases hz : gk = 0
    · have hkn : ¬ (k : Int) < n := by omega
      have e : V = 0 := by
        rw [H.out, List.drop_eq_nil_of_le (by have := HL.out; omega)]; rfl
      subst e
      clear H hz hg hk hx
      go_wp2
      go_ret
      exact ⟨rfl, XW.out⟩
    · have hkn : (k : Int) < n := by omega
      have hkl : k < l.length := by have := HL.out; omega
      obtain ⟨b1, o1, rfl, hb1, hc1⟩ := (HH.out.ext hx).rec_ rc_len (show 0 < n from by omega)
      have e0 := hc1 k _ (List.getElem?_eq_getElem hkl) 0 _ rfl
      have e1 := hc1 k _ (List.getElem?_eq_getElem hkl) 1 _ rfl
      have hd := firstR_drop (List.getElem?_eq_getElem hkl)
      obtain ⟨x, hxx⟩ : ∃ x, x = l[k] := ⟨_, rfl⟩
      rw [← hxx] at e0 e1 hd
      obtain ⟨bx, ex⟩ := x
      simp only at e0 e1 hd
      rw [Nat.add_zero] at e0
      rw [← Nat.add_assoc] at e1
      rw [← H.out] at hd
      have HD := Lib.hid hd
      have HK := Lib.hid (And.intro hk (And.intro hg hz))
      have g1 : ¬ b1 = wr.heap.size := by omega
      have g2 : b1 < wr.heap.size := hb1
      clear hc1 hxx hkl hk hg hz hd H hx
      cases bx
      · have hd := HD.out
        rw [if_neg (by decide)] at hd
        have HD2 := Lib.hid hd
        clear hd HD
        go_wp2
        go_roundg (gk - 1)
        case measure => have := HK.out; omega
        case rel => exact ⟨by have := HK.out; omega, by rw [show n - (gk - 1) = k + 1 from by have := HK.out; omega]; exact HD2, num_eq (by have := HK.out; omega), by have X := XW.out; exact (by repeat (first | assumption | exact Ext.refl _ | refine Ext.drew ?_ | refine Ext.drewN ?_ _ | refine Ext.alloc ?_ _ | refine Ext.setCell ?_ (by first | omega | (simp; done) | (simp; omega)) _ | refine Ext.trans ?_ (by assumption)))⟩
      · have hd := HD.out
        rw [if_pos rfl] at hd
        subst hd
        clear HD
        go_wp2
        go_ret
        exact ⟨rfl, by have X := XW.out; exact (by repeat (first | assumption | exact Ext.refl _ | refine Ext.drew ?_ | refine Ext.drewN ?_ _ | refine Ext.alloc ?_ _ | refine Ext.setCell ?_ (by first | omega | (simp; done) | (simp; omega)) _ | refine Ext.trans ?_ (by assumption)))⟩
end
section
open Go.RowKit
theorem sl_rules (w : World) (e : TypeId) (z : Nat) (hz : w.heap.size = z) (a b c d : Bool) (k l m n : Int) : Sl (w.alloc (.cells #[.bool a, .int .i64 k, .bool b, .int .i64 l, .bool c, .int .i64 m, .bool d, .int .i64 n] e)).drew 2 (some ⟨z, 0, none⟩) 4 4 ([(a, k), (b, l), (c, m), (d, n)].flatMap rc) := by
  subst hz
  exact (sl_new w e 2 #[.bool a, .int .i64 k, .bool b, .int .i64 l, .bool c, .int .i64 m, .bool d, .int .i64 n] 4 rfl (by decide)).ext (Ext.drew (Ext.refl _))
def chkS (V S P F : Int) : Int := firstR [(outB V 0 31 || outB S 1 4294967296 || outB P (-1) 31 || outB F 0 4294967296, 3), (P == V, 2), (!((P == -1) == (F == 0)), 11), (decide (S < F), 9)]
set_option maxRecDepth 100000 in
set_option maxHeartbeats 4000000 in
theorem tCheck_1 (V S P F : Int) (w : World) (C1 : ∀ w, Calls Tryz.prog 85 #[.int .i64 V] w fun r w' => r = .returned (.bool true) ∧ w = w') :
    Calls Tryz.prog 59 #[.agg #[.int .i64 V, .int .i64 S, .int .i64 P, .int .i64 F]] w fun r w' => r = .returned (.int .i64 (firstR [(true, 3), (P == V, 2), (!((P == -1) == (F == 0)), 11), (decide (S < F), 9)])) ∧ Ext w w' := by
  go_enter Tryz.func59, Tryz.ntmps59
  go_wp2_with fail
  refine wp_region_held_drew (S := fun w' => w'.cell? ⟨w.heap.size, 0, none⟩ = some (.int .i64 V) ∧ w'.cell? ⟨w.heap.size, 1, none⟩ = some (.int .i64 S) ∧ w'.cell? ⟨w.heap.size, 2, none⟩ = some (.int .i64 P) ∧ w'.cell? ⟨w.heap.size, 3, none⟩ = some (.int .i64 F)) (by kernel_rfl) (by simp [go_sem]) (fun hHeld => ?_)
  (refine' take_in 0 rfl (by kernel_rfl) (by kernel_rfl) (by kernel_rfl) (fun _ _ _ h => h) (by rfl) (by assumption) ?_ ?_; rotate_left; focus (intro w hSw; (try dsimp only at hSw); go_simp; try with_reducible rfl)); try simp only [Act.put, List.setIfInBounds_toArray, List.set_cons_zero, List.set_cons_succ]
  (refine' take_in 1 rfl (by kernel_rfl) (by kernel_rfl) (by kernel_rfl) (fun _ _ _ h => h) (by rfl) (by assumption) ?_ ?_; rotate_left; focus (intro w hSw; (try dsimp only at hSw); go_simp; try with_reducible rfl)); try simp only [Act.put, List.setIfInBounds_toArray, List.set_cons_zero, List.set_cons_succ]
  (refine' take_in 19 rfl (by kernel_rfl) (by kernel_rfl) (by kernel_rfl) (fun _ _ _ h => h) (by rfl) (by assumption) ?_ ?_; rotate_left; focus (intro w hSw; (try dsimp only at hSw); go_simp; try with_reducible rfl)); try simp only [Act.put, List.setIfInBounds_toArray, List.set_cons_zero, List.set_cons_succ]
  (refine' take_in 20 rfl (by kernel_rfl) (by kernel_rfl) (by kernel_rfl) (fun _ _ _ h => h) (by rfl) (by assumption) ?_ ?_; rotate_left; focus (intro w hSw; (try dsimp only at hSw); go_simp; try with_reducible rfl)); try simp only [Act.put, List.setIfInBounds_toArray, List.set_cons_zero, List.set_cons_succ]
  (refine' take_in 21 rfl (by kernel_rfl) (by kernel_rfl) (by kernel_rfl) (fun _ _ _ h => h) (by rfl) (by assumption) ?_ ?_; rotate_left; focus (intro w hSw; (try dsimp only at hSw); go_simp; try with_reducible rfl)); try simp only [Act.put, List.setIfInBounds_toArray, List.set_cons_zero, List.set_cons_succ]
  (refine' take_in 22 rfl (by kernel_rfl) (by kernel_rfl) (by kernel_rfl) (fun _ _ _ h => h) (by rfl) (by assumption) ?_ ?_; rotate_left; focus (intro w hSw; (try dsimp only at hSw); go_simp; try with_reducible rfl)); try simp only [Act.put, List.setIfInBounds_toArray, List.set_cons_zero, List.set_cons_succ]
  (refine' take_in 23 rfl (by kernel_rfl) (by kernel_rfl) (by kernel_rfl) (fun _ _ _ h => h) (by rfl) (by assumption) ?_ ?_; rotate_left; focus (intro w hSw; (try dsimp only at hSw); go_simp; try with_reducible rfl)); try simp only [Act.put, List.setIfInBounds_toArray, List.set_cons_zero, List.set_cons_succ]
  (refine' take_in 24 rfl (by kernel_rfl) (by kernel_rfl) (by kernel_rfl) (fun _ _ _ h => h) (by rfl) (by assumption) ?_ ?_; rotate_left; focus (intro w hSw; (try dsimp only at hSw); go_simp; try with_reducible rfl)); try simp only [Act.put, List.setIfInBounds_toArray, List.set_cons_zero, List.set_cons_succ]
  (refine' take_in 25 rfl (by kernel_rfl) (by kernel_rfl) (by kernel_rfl) (fun _ _ _ h => h) (by rfl) (by assumption) ?_ ?_; rotate_left; focus (intro w hSw; (try dsimp only at hSw); go_simp; try with_reducible rfl)); try simp only [Act.put, List.setIfInBounds_toArray, List.set_cons_zero, List.set_cons_succ]
  (refine' take_in 26 rfl (by kernel_rfl) (by kernel_rfl) (by kernel_rfl) (fun _ _ _ h => h) (by rfl) (by assumption) ?_ ?_; rotate_left; focus (intro w hSw; (try dsimp only at hSw); go_simp; try with_reducible rfl)); try simp only [Act.put, List.setIfInBounds_toArray, List.set_cons_zero, List.set_cons_succ]
  (refine' take_in 27 rfl (by kernel_rfl) (by kernel_rfl) (by kernel_rfl) (fun _ _ _ h => h) (by rfl) (by assumption) ?_ ?_; rotate_left; focus (intro w hSw; (try dsimp only at hSw); go_simp; try with_reducible rfl)); try simp only [Act.put, List.setIfInBounds_toArray, List.set_cons_zero, List.set_cons_succ]
  (refine' take_in 28 rfl (by kernel_rfl) (by kernel_rfl) (by kernel_rfl) (fun _ _ _ h => h) (by rfl) (by assumption) ?_ ?_; rotate_left; focus (intro w hSw; (try dsimp only at hSw); go_simp; try with_reducible rfl)); try simp only [Act.put, List.setIfInBounds_toArray, List.set_cons_zero, List.set_cons_succ]
  (refine' take_in 29 rfl (by kernel_rfl) (by kernel_rfl) (by kernel_rfl) (fun _ _ _ h => h) (by rfl) (by assumption) ?_ ?_; rotate_left; focus (intro w hSw; (try dsimp only at hSw); go_simp; try with_reducible rfl)); try simp only [Act.put, List.setIfInBounds_toArray, List.set_cons_zero, List.set_cons_succ]
  (refine' take_in 30 rfl (by kernel_rfl) (by kernel_rfl) (by kernel_rfl) (fun _ _ _ h => h) (by rfl) (by assumption) ?_ ?_; rotate_left; focus (intro w hSw; (try dsimp only at hSw); go_simp; try with_reducible rfl)); try simp only [Act.put, List.setIfInBounds_toArray, List.set_cons_zero, List.set_cons_succ]
  (refine' take_in 31 rfl (by kernel_rfl) (by kernel_rfl) (by kernel_rfl) (fun _ _ _ h => h) (by rfl) (by assumption) ?_ ?_; rotate_left; focus (intro w hSw; (try dsimp only at hSw); go_simp; try with_reducible rfl)); try simp only [Act.put, List.setIfInBounds_toArray, List.set_cons_zero, List.set_cons_succ]
  (refine' take_in 32 rfl (by kernel_rfl) (by kernel_rfl) (by kernel_rfl) (fun _ _ _ h => h) (by rfl) (by assumption) ?_ ?_; rotate_left; focus (intro w hSw; (try dsimp only at hSw); go_simp; try with_reducible rfl)); try simp only [Act.put, List.setIfInBounds_toArray, List.set_cons_zero, List.set_cons_succ]
  (refine' take_in 33 rfl (by kernel_rfl) (by kernel_rfl) (by kernel_rfl) (fun _ _ _ h => h) (by rfl) (by assumption) ?_ ?_; rotate_left; focus (intro w hSw; (try dsimp only at hSw); go_simp; try with_reducible rfl)); try simp only [Act.put, List.setIfInBounds_toArray, List.set_cons_zero, List.set_cons_succ]
  (refine' take_in 34 rfl (by kernel_rfl) (by kernel_rfl) (by kernel_rfl) (fun _ _ _ h => h) (by rfl) (by assumption) ?_ ?_; rotate_left; focus (intro w hSw; (try dsimp only at hSw); go_simp; try with_reducible rfl)); try simp only [Act.put, List.setIfInBounds_toArray, List.set_cons_zero, List.set_cons_succ]
  (refine' take_in 35 rfl (by kernel_rfl) (by kernel_rfl) (by kernel_rfl) (fun _ _ _ h => h) (by rfl) (by assumption) ?_ ?_; rotate_left; focus (intro w hSw; (try dsimp only at hSw); go_simp; try with_reducible rfl)); try simp only [Act.put, List.setIfInBounds_toArray, List.set_cons_zero, List.set_cons_succ]
  (refine' take_in 36 rfl (by kernel_rfl) (by kernel_rfl) (by kernel_rfl) (fun _ _ _ h => h) (by rfl) (by assumption) ?_ ?_; rotate_left; focus (intro w hSw; (try dsimp only at hSw); go_simp; try with_reducible rfl)); try simp only [Act.put, List.setIfInBounds_toArray, List.set_cons_zero, List.set_cons_succ]
  (refine' take_in 37 rfl (by kernel_rfl) (by kernel_rfl) (by kernel_rfl) (fun _ _ _ h => h) (by rfl) (by assumption) ?_ ?_; rotate_left; focus (intro w hSw; (try dsimp only at hSw); go_simp; try with_reducible rfl)); try simp only [Act.put, List.setIfInBounds_toArray, List.set_cons_zero, List.set_cons_succ]
  (refine' take_in 38 rfl (by kernel_rfl) (by kernel_rfl) (by kernel_rfl) (fun _ _ _ h => h) (by rfl) (by assumption) ?_ ?_; rotate_left; focus (intro w hSw; (try dsimp only at hSw); go_simp; try with_reducible rfl)); try simp only [Act.put, List.setIfInBounds_toArray, List.set_cons_zero, List.set_cons_succ]
  refine' next_in 2 rfl (by kernel_rfl) (by rfl) (fun K hK => ?_)
  (go_simp; go_at_call 85; refine (C1 _).mono ?_; rintro e w1 ⟨rfl, rfl⟩; try go_simp)
  refine hK.out _ _ (by simp [go_sem, World.cell?_alloc_past]) (fun hHeld => ?_); clear hK K; try simp only [Act.put, List.setIfInBounds_toArray, List.set_cons_zero, List.set_cons_succ]
  (refine' take_in 3 rfl (by kernel_rfl) (by kernel_rfl) (by kernel_rfl) (fun _ _ _ h => h) (by rfl) (by assumption) ?_ ?_; rotate_left; focus (intro w hSw; (try dsimp only at hSw); go_simp; try with_reducible rfl)); try simp only [Act.put, List.setIfInBounds_toArray, List.set_cons_zero, List.set_cons_succ]
  (refine' skip_in 4 rfl (by kernel_rfl) (by kernel_rfl) (by kernel_rfl) (fun _ _ _ h => h) (by rfl) (by assumption) ?_); try simp only [Act.put, List.setIfInBounds_toArray, List.set_cons_zero, List.set_cons_succ]
  (refine' skip_in 5 rfl (by kernel_rfl) (by kernel_rfl) (by kernel_rfl) (fun _ _ _ h => h) (by rfl) (by assumption) ?_); try simp only [Act.put, List.setIfInBounds_toArray, List.set_cons_zero, List.set_cons_succ]
  (refine' skip_in 6 rfl (by kernel_rfl) (by kernel_rfl) (by kernel_rfl) (fun _ _ _ h => h) (by rfl) (by assumption) ?_); try simp only [Act.put, List.setIfInBounds_toArray, List.set_cons_zero, List.set_cons_succ]
  (refine' take_in 7 rfl (by kernel_rfl) (by kernel_rfl) (by kernel_rfl) (fun _ _ _ h => h) (by rfl) (by assumption) ?_ ?_; rotate_left; focus (intro w hSw; (try dsimp only at hSw); go_simp; try with_reducible rfl)); try simp only [Act.put, List.setIfInBounds_toArray, List.set_cons_zero, List.set_cons_succ]
  (refine' take_in 8 rfl (by kernel_rfl) (by kernel_rfl) (by kernel_rfl) (fun _ _ _ h => h) (by rfl) (by assumption) ?_ ?_; rotate_left; focus (intro w hSw; (try dsimp only at hSw); go_simp; try with_reducible rfl)); try simp only [Act.put, List.setIfInBounds_toArray, List.set_cons_zero, List.set_cons_succ]
  (refine' skip_in 9 rfl (by kernel_rfl) (by kernel_rfl) (by kernel_rfl) (fun _ _ _ h => h) (by rfl) (by assumption) ?_); try simp only [Act.put, List.setIfInBounds_toArray, List.set_cons_zero, List.set_cons_succ]
  (refine' skip_in 10 rfl (by kernel_rfl) (by kernel_rfl) (by kernel_rfl) (fun _ _ _ h => h) (by rfl) (by assumption) ?_); try simp only [Act.put, List.setIfInBounds_toArray, List.set_cons_zero, List.set_cons_succ]
  (refine' skip_in 11 rfl (by kernel_rfl) (by kernel_rfl) (by kernel_rfl) (fun _ _ _ h => h) (by rfl) (by assumption) ?_); try simp only [Act.put, List.setIfInBounds_toArray, List.set_cons_zero, List.set_cons_succ]
  (refine' take_in 12 rfl (by kernel_rfl) (by kernel_rfl) (by kernel_rfl) (fun _ _ _ h => h) (by rfl) (by assumption) ?_ ?_; rotate_left; focus (intro w hSw; (try dsimp only at hSw); go_simp; try with_reducible rfl)); try simp only [Act.put, List.setIfInBounds_toArray, List.set_cons_zero, List.set_cons_succ]
  (refine' take_in 13 rfl (by kernel_rfl) (by kernel_rfl) (by kernel_rfl) (fun _ _ _ h => h) (by rfl) (by assumption) ?_ ?_; rotate_left; focus (intro w hSw; (try dsimp only at hSw); go_simp; try with_reducible rfl)); try simp only [Act.put, List.setIfInBounds_toArray, List.set_cons_zero, List.set_cons_succ]
  (refine' skip_in 14 rfl (by kernel_rfl) (by kernel_rfl) (by kernel_rfl) (fun _ _ _ h => h) (by rfl) (by assumption) ?_); try simp only [Act.put, List.setIfInBounds_toArray, List.set_cons_zero, List.set_cons_succ]
  (refine' skip_in 15 rfl (by kernel_rfl) (by kernel_rfl) (by kernel_rfl) (fun _ _ _ h => h) (by rfl) (by assumption) ?_); try simp only [Act.put, List.setIfInBounds_toArray, List.set_cons_zero, List.set_cons_succ]
  (refine' skip_in 16 rfl (by kernel_rfl) (by kernel_rfl) (by kernel_rfl) (fun _ _ _ h => h) (by rfl) (by assumption) ?_); try simp only [Act.put, List.setIfInBounds_toArray, List.set_cons_zero, List.set_cons_succ]
  (refine' take_in 17 rfl (by kernel_rfl) (by kernel_rfl) (by kernel_rfl) (fun _ _ _ h => h) (by rfl) (by assumption) ?_ ?_; rotate_left; focus (intro w hSw; (try dsimp only at hSw); go_simp; try with_reducible rfl)); try simp only [Act.put, List.setIfInBounds_toArray, List.set_cons_zero, List.set_cons_succ]
  (refine' take_in 18 rfl (by kernel_rfl) (by kernel_rfl) (by kernel_rfl) (fun _ _ _ h => h) (by rfl) (by assumption) ?_ ?_; rotate_left; focus (intro w hSw; (try dsimp only at hSw); go_simp; try with_reducible rfl)); try simp only [Act.put, List.setIfInBounds_toArray, List.set_cons_zero, List.set_cons_succ]
  refine' next_in 39 rfl (by kernel_rfl) (by rfl) (fun K hK => ?_)
  go_simp
  refine hK.out _ _ (by simp [go_sem, World.cell?_alloc_past]) (fun hHeld => ?_); clear hK K; try simp only [Act.put, List.setIfInBounds_toArray, List.set_cons_zero, List.set_cons_succ]
  refine' next_in 40 rfl (by kernel_rfl) (by rfl) (fun K hK => ?_)
  (go_simp; go_at_call 84; (with_reducible refine (tfirst_any (some ⟨w.heap.size + 1, 0, none⟩) 4 4 [(true, 3), (P == V, 2), (!((P == -1) == (F == 0)), 11), (decide (S < F), 9)] _ (sl_rules _ 123 _ (by simp) _ _ _ _ _ _ _ _)).mono ?_); rintro e w2 ⟨rfl, hx2⟩)
  have d0 : w2.cell? ⟨w.heap.size, 0, none⟩ = some (.int .i64 V) := hx2.has (by simp [go_sem, World.cell?_alloc_past])
  have d1 : w2.cell? ⟨w.heap.size, 1, none⟩ = some (.int .i64 S) := hx2.has (by simp [go_sem, World.cell?_alloc_past])
  have d2 : w2.cell? ⟨w.heap.size, 2, none⟩ = some (.int .i64 P) := hx2.has (by simp [go_sem, World.cell?_alloc_past])
  have d3 : w2.cell? ⟨w.heap.size, 3, none⟩ = some (.int .i64 F) := hx2.has (by simp [go_sem, World.cell?_alloc_past])
  try go_simp
  refine hK.out _ _ (⟨d0, d1, d2, d3⟩) (fun hHeld => ?_); clear hK K; try simp only [Act.put, List.setIfInBounds_toArray, List.set_cons_zero, List.set_cons_succ]
  (refine' take_in 41 rfl (by kernel_rfl) (by kernel_rfl) (by kernel_rfl) (fun _ _ _ h => h) (by rfl) (by assumption) ?_ ?_; rotate_left; focus (intro w hSw; (try dsimp only at hSw); go_simp; try with_reducible rfl)); try simp only [Act.put, List.setIfInBounds_toArray, List.set_cons_zero, List.set_cons_succ]
  refine wpAnyH_done (by kernel_rfl) ?_ _
  go_wp2
  go_ret
  exact ⟨rfl, (by repeat (first | assumption | exact Ext.refl _ | refine Ext.drew ?_ | refine Ext.drewN ?_ _ | refine Ext.alloc ?_ _ | refine Ext.setCell ?_ (by first | omega | (simp; done) | (simp; omega)) _ | refine Ext.trans ?_ (by assumption)))⟩
set_option maxRecDepth 100000 in
set_option maxHeartbeats 4000000 in
theorem tCheck_2 (V S P F : Int) (w : World) (C1 : ∀ w, Calls Tryz.prog 85 #[.int .i64 V] w fun r w' => r = .returned (.bool false) ∧ w = w') (C2 : ∀ w, Calls Tryz.prog 86 #[.int .i64 S] w fun r w' => r = .returned (.bool true) ∧ w = w') :
    Calls Tryz.prog 59 #[.agg #[.int .i64 V, .int .i64 S, .int .i64 P, .int .i64 F]] w fun r w' => r = .returned (.int .i64 (firstR [(true, 3), (P == V, 2), (!((P == -1) == (F == 0)), 11), (decide (S < F), 9)])) ∧ Ext w w' := by
  go_enter Tryz.func59, Tryz.ntmps59
  go_wp2_with fail
  refine wp_region_held_drew (S := fun w' => w'.cell? ⟨w.heap.size, 0, none⟩ = some (.int .i64 V) ∧ w'.cell? ⟨w.heap.size, 1, none⟩ = some (.int .i64 S) ∧ w'.cell? ⟨w.heap.size, 2, none⟩ = some (.int .i64 P) ∧ w'.cell? ⟨w.heap.size, 3, none⟩ = some (.int .i64 F)) (by kernel_rfl) (by simp [go_sem]) (fun hHeld => ?_)
  (refine' take_in 0 rfl (by kernel_rfl) (by kernel_rfl) (by kernel_rfl) (fun _ _ _ h => h) (by rfl) (by assumption) ?_ ?_; rotate_left; focus (intro w hSw; (try dsimp only at hSw); go_simp; try with_reducible rfl)); try simp only [Act.put, List.setIfInBounds_toArray, List.set_cons_zero, List.set_cons_succ]
  (refine' take_in 1 rfl (by kernel_rfl) (by kernel_rfl) (by kernel_rfl) (fun _ _ _ h => h) (by rfl) (by assumption) ?_ ?_; rotate_left; focus (intro w hSw; (try dsimp only at hSw); go_simp; try with_reducible rfl)); try simp only [Act.put, List.setIfInBounds_toArray, List.set_cons_zero, List.set_cons_succ]
  (refine' take_in 19 rfl (by kernel_rfl) (by kernel_rfl) (by kernel_rfl) (fun _ _ _ h => h) (by rfl) (by assumption) ?_ ?_; rotate_left; focus (intro w hSw; (try dsimp only at hSw); go_simp; try with_reducible rfl)); try simp only [Act.put, List.setIfInBounds_toArray, List.set_cons_zero, List.set_cons_succ]
  (refine' take_in 20 rfl (by kernel_rfl) (by kernel_rfl) (by kernel_rfl) (fun _ _ _ h => h) (by rfl) (by assumption) ?_ ?_; rotate_left; focus (intro w hSw; (try dsimp only at hSw); go_simp; try with_reducible rfl)); try simp only [Act.put, List.setIfInBounds_toArray, List.set_cons_zero, List.set_cons_succ]
  (refine' take_in 21 rfl (by kernel_rfl) (by kernel_rfl) (by kernel_rfl) (fun _ _ _ h => h) (by rfl) (by assumption) ?_ ?_; rotate_left; focus (intro w hSw; (try dsimp only at hSw); go_simp; try with_reducible rfl)); try simp only [Act.put, List.setIfInBounds_toArray, List.set_cons_zero, List.set_cons_succ]
  (refine' take_in 22 rfl (by kernel_rfl) (by kernel_rfl) (by kernel_rfl) (fun _ _ _ h => h) (by rfl) (by assumption) ?_ ?_; rotate_left; focus (intro w hSw; (try dsimp only at hSw); go_simp; try with_reducible rfl)); try simp only [Act.put, List.setIfInBounds_toArray, List.set_cons_zero, List.set_cons_succ]
  (refine' take_in 23 rfl (by kernel_rfl) (by kernel_rfl) (by kernel_rfl) (fun _ _ _ h => h) (by rfl) (by assumption) ?_ ?_; rotate_left; focus (intro w hSw; (try dsimp only at hSw); go_simp; try with_reducible rfl)); try simp only [Act.put, List.setIfInBounds_toArray, List.set_cons_zero, List.set_cons_succ]
  (refine' take_in 24 rfl (by kernel_rfl) (by kernel_rfl) (by kernel_rfl) (fun _ _ _ h => h) (by rfl) (by assumption) ?_ ?_; rotate_left; focus (intro w hSw; (try dsimp only at hSw); go_simp; try with_reducible rfl)); try simp only [Act.put, List.setIfInBounds_toArray, List.set_cons_zero, List.set_cons_succ]
  (refine' take_in 25 rfl (by kernel_rfl) (by kernel_rfl) (by kernel_rfl) (fun _ _ _ h => h) (by rfl) (by assumption) ?_ ?_; rotate_left; focus (intro w hSw; (try dsimp only at hSw); go_simp; try with_reducible rfl)); try simp only [Act.put, List.setIfInBounds_toArray, List.set_cons_zero, List.set_cons_succ]
  (refine' take_in 26 rfl (by kernel_rfl) (by kernel_rfl) (by kernel_rfl) (fun _ _ _ h => h) (by rfl) (by assumption) ?_ ?_; rotate_left; focus (intro w hSw; (try dsimp only at hSw); go_simp; try with_reducible rfl)); try simp only [Act.put, List.setIfInBounds_toArray, List.set_cons_zero, List.set_cons_succ]
  (refine' take_in 27 rfl (by kernel_rfl) (by kernel_rfl) (by kernel_rfl) (fun _ _ _ h => h) (by rfl) (by assumption) ?_ ?_; rotate_left; focus (intro w hSw; (try dsimp only at hSw); go_simp; try with_reducible rfl)); try simp only [Act.put, List.setIfInBounds_toArray, List.set_cons_zero, List.set_cons_succ]
  (refine' take_in 28 rfl (by kernel_rfl) (by kernel_rfl) (by kernel_rfl) (fun _ _ _ h => h) (by rfl) (by assumption) ?_ ?_; rotate_left; focus (intro w hSw; (try dsimp only at hSw); go_simp; try with_reducible rfl)); try simp only [Act.put, List.setIfInBounds_toArray, List.set_cons_zero, List.set_cons_succ]
  (refine' take_in 29 rfl (by kernel_rfl) (by kernel_rfl) (by kernel_rfl) (fun _ _ _ h => h) (by rfl) (by assumption) ?_ ?_; rotate_left; focus (intro w hSw; (try dsimp only at hSw); go_simp; try with_reducible rfl)); try simp only [Act.put, List.setIfInBounds_toArray, List.set_cons_zero, List.set_cons_succ]
  (refine' take_in 30 rfl (by kernel_rfl) (by kernel_rfl) (by kernel_rfl) (fun _ _ _ h => h) (by rfl) (by assumption) ?_ ?_; rotate_left; focus (intro w hSw; (try dsimp only at hSw); go_simp; try with_reducible rfl)); try simp only [Act.put, List.setIfInBounds_toArray, List.set_cons_zero, List.set_cons_succ]
  (refine' take_in 31 rfl (by kernel_rfl) (by kernel_rfl) (by kernel_rfl) (fun _ _ _ h => h) (by rfl) (by assumption) ?_ ?_; rotate_left; focus (intro w hSw; (try dsimp only at hSw); go_simp; try with_reducible rfl)); try simp only [Act.put, List.setIfInBounds_toArray, List.set_cons_zero, List.set_cons_succ]
  (refine' take_in 32 rfl (by kernel_rfl) (by kernel_rfl) (by kernel_rfl) (fun _ _ _ h => h) (by rfl) (by assumption) ?_ ?_; rotate_left; focus (intro w hSw; (try dsimp only at hSw); go_simp; try with_reducible rfl)); try simp only [Act.put, List.setIfInBounds_toArray, List.set_cons_zero, List.set_cons_succ]
  (refine' take_in 33 rfl (by kernel_rfl) (by kernel_rfl) (by kernel_rfl) (fun _ _ _ h => h) (by rfl) (by assumption) ?_ ?_; rotate_left; focus (intro w hSw; (try dsimp only at hSw); go_simp; try with_reducible rfl)); try simp only [Act.put, List.setIfInBounds_toArray, List.set_cons_zero, List.set_cons_succ]
  (refine' take_in 34 rfl (by kernel_rfl) (by kernel_rfl) (by kernel_rfl) (fun _ _ _ h => h) (by rfl) (by assumption) ?_ ?_; rotate_left; focus (intro w hSw; (try dsimp only at hSw); go_simp; try with_reducible rfl)); try simp only [Act.put, List.setIfInBounds_toArray, List.set_cons_zero, List.set_cons_succ]
  (refine' take_in 35 rfl (by kernel_rfl) (by kernel_rfl) (by kernel_rfl) (fun _ _ _ h => h) (by rfl) (by assumption) ?_ ?_; rotate_left; focus (intro w hSw; (try dsimp only at hSw); go_simp; try with_reducible rfl)); try simp only [Act.put, List.setIfInBounds_toArray, List.set_cons_zero, List.set_cons_succ]
  (refine' take_in 36 rfl (by kernel_rfl) (by kernel_rfl) (by kernel_rfl) (fun _ _ _ h => h) (by rfl) (by assumption) ?_ ?_; rotate_left; focus (intro w hSw; (try dsimp only at hSw); go_simp; try with_reducible rfl)); try simp only [Act.put, List.setIfInBounds_toArray, List.set_cons_zero, List.set_cons_succ]
  (refine' take_in 37 rfl (by kernel_rfl) (by kernel_rfl) (by kernel_rfl) (fun _ _ _ h => h) (by rfl) (by assumption) ?_ ?_; rotate_left; focus (intro w hSw; (try dsimp only at hSw); go_simp; try with_reducible rfl)); try simp only [Act.put, List.setIfInBounds_toArray, List.set_cons_zero, List.set_cons_succ]
  (refine' take_in 38 rfl (by kernel_rfl) (by kernel_rfl) (by kernel_rfl) (fun _ _ _ h => h) (by rfl) (by assumption) ?_ ?_; rotate_left; focus (intro w hSw; (try dsimp only at hSw); go_simp; try with_reducible rfl)); try simp only [Act.put, List.setIfInBounds_toArray, List.set_cons_zero, List.set_cons_succ]
  refine' next_in 2 rfl (by kernel_rfl) (by rfl) (fun K hK => ?_)
  (go_simp; go_at_call 85; refine (C1 _).mono ?_; rintro e w1 ⟨rfl, rfl⟩; try go_simp)
  refine hK.out _ _ (by simp [go_sem, World.cell?_alloc_past]) (fun hHeld => ?_); clear hK K; try simp only [Act.put, List.setIfInBounds_toArray, List.set_cons_zero, List.set_cons_succ]
  (refine' take_in 3 rfl (by kernel_rfl) (by kernel_rfl) (by kernel_rfl) (fun _ _ _ h => h) (by rfl) (by assumption) ?_ ?_; rotate_left; focus (intro w hSw; (try dsimp only at hSw); go_simp; try with_reducible rfl)); try simp only [Act.put, List.setIfInBounds_toArray, List.set_cons_zero, List.set_cons_succ]
  (refine' take_in 4 rfl (by kernel_rfl) (by kernel_rfl) (by kernel_rfl) (fun _ _ _ h => h) (by rfl) (by assumption) ?_ ?_; rotate_left; focus (intro w hSw; (try dsimp only at hSw); go_simp; try with_reducible rfl)); try simp only [Act.put, List.setIfInBounds_toArray, List.set_cons_zero, List.set_cons_succ]
  (refine' take_in 5 rfl (by kernel_rfl) (by kernel_rfl) (by kernel_rfl) (fun _ _ _ h => h) (by rfl) (by assumption) ?_ ?_; rotate_left; focus (intro w hSw; (try dsimp only at hSw); go_simp; try with_reducible rfl)); try simp only [Act.put, List.setIfInBounds_toArray, List.set_cons_zero, List.set_cons_succ]
  refine' next_in 6 rfl (by kernel_rfl) (by rfl) (fun K hK => ?_)
  (go_simp; go_at_call 86; refine (C2 _).mono ?_; rintro e w1 ⟨rfl, rfl⟩; try go_simp)
  refine hK.out _ _ (by simp [go_sem, World.cell?_alloc_past]) (fun hHeld => ?_); clear hK K; try simp only [Act.put, List.setIfInBounds_toArray, List.set_cons_zero, List.set_cons_succ]
  (refine' take_in 7 rfl (by kernel_rfl) (by kernel_rfl) (by kernel_rfl) (fun _ _ _ h => h) (by rfl) (by assumption) ?_ ?_; rotate_left; focus (intro w hSw; (try dsimp only at hSw); go_simp; try with_reducible rfl)); try simp only [Act.put, List.setIfInBounds_toArray, List.set_cons_zero, List.set_cons_succ]
  (refine' take_in 8 rfl (by kernel_rfl) (by kernel_rfl) (by kernel_rfl) (fun _ _ _ h => h) (by rfl) (by assumption) ?_ ?_; rotate_left; focus (intro w hSw; (try dsimp only at hSw); go_simp; try with_reducible rfl)); try simp only [Act.put, List.setIfInBounds_toArray, List.set_cons_zero, List.set_cons_succ]
  (refine' skip_in 9 rfl (by kernel_rfl) (by kernel_rfl) (by kernel_rfl) (fun _ _ _ h => h) (by rfl) (by assumption) ?_); try simp only [Act.put, List.setIfInBounds_toArray, List.set_cons_zero, List.set_cons_succ]
  (refine' skip_in 10 rfl (by kernel_rfl) (by kernel_rfl) (by kernel_rfl) (fun _ _ _ h => h) (by rfl) (by assumption) ?_); try simp only [Act.put, List.setIfInBounds_toArray, List.set_cons_zero, List.set_cons_succ]
  (refine' skip_in 11 rfl (by kernel_rfl) (by kernel_rfl) (by kernel_rfl) (fun _ _ _ h => h) (by rfl) (by assumption) ?_); try simp only [Act.put, List.setIfInBounds_toArray, List.set_cons_zero, List.set_cons_succ]
  (refine' take_in 12 rfl (by kernel_rfl) (by kernel_rfl) (by kernel_rfl) (fun _ _ _ h => h) (by rfl) (by assumption) ?_ ?_; rotate_left; focus (intro w hSw; (try dsimp only at hSw); go_simp; try with_reducible rfl)); try simp only [Act.put, List.setIfInBounds_toArray, List.set_cons_zero, List.set_cons_succ]
  (refine' take_in 13 rfl (by kernel_rfl) (by kernel_rfl) (by kernel_rfl) (fun _ _ _ h => h) (by rfl) (by assumption) ?_ ?_; rotate_left; focus (intro w hSw; (try dsimp only at hSw); go_simp; try with_reducible rfl)); try simp only [Act.put, List.setIfInBounds_toArray, List.set_cons_zero, List.set_cons_succ]
  (refine' skip_in 14 rfl (by kernel_rfl) (by kernel_rfl) (by kernel_rfl) (fun _ _ _ h => h) (by rfl) (by assumption) ?_); try simp only [Act.put, List.setIfInBounds_toArray, List.set_cons_zero, List.set_cons_succ]
  (refine' skip_in 15 rfl (by kernel_rfl) (by kernel_rfl) (by kernel_rfl) (fun _ _ _ h => h) (by rfl) (by assumption) ?_); try simp only [Act.put, List.setIfInBounds_toArray, List.set_cons_zero, List.set_cons_succ]
  (refine' skip_in 16 rfl (by kernel_rfl) (by kernel_rfl) (by kernel_rfl) (fun _ _ _ h => h) (by rfl) (by assumption) ?_); try simp only [Act.put, List.setIfInBounds_toArray, List.set_cons_zero, List.set_cons_succ]
  (refine' take_in 17 rfl (by kernel_rfl) (by kernel_rfl) (by kernel_rfl) (fun _ _ _ h => h) (by rfl) (by assumption) ?_ ?_; rotate_left; focus (intro w hSw; (try dsimp only at hSw); go_simp; try with_reducible rfl)); try simp only [Act.put, List.setIfInBounds_toArray, List.set_cons_zero, List.set_cons_succ]
  (refine' take_in 18 rfl (by kernel_rfl) (by kernel_rfl) (by kernel_rfl) (fun _ _ _ h => h) (by rfl) (by assumption) ?_ ?_; rotate_left; focus (intro w hSw; (try dsimp only at hSw); go_simp; try with_reducible rfl)); try simp only [Act.put, List.setIfInBounds_toArray, List.set_cons_zero, List.set_cons_succ]
  refine' next_in 39 rfl (by kernel_rfl) (by rfl) (fun K hK => ?_)
  go_simp
  refine hK.out _ _ (by simp [go_sem, World.cell?_alloc_past]) (fun hHeld => ?_); clear hK K; try simp only [Act.put, List.setIfInBounds_toArray, List.set_cons_zero, List.set_cons_succ]
  refine' next_in 40 rfl (by kernel_rfl) (by rfl) (fun K hK => ?_)
  (go_simp; go_at_call 84; (with_reducible refine (tfirst_any (some ⟨w.heap.size + 1, 0, none⟩) 4 4 [(true, 3), (P == V, 2), (!((P == -1) == (F == 0)), 11), (decide (S < F), 9)] _ (sl_rules _ 123 _ (by simp) _ _ _ _ _ _ _ _)).mono ?_); rintro e w2 ⟨rfl, hx2⟩)
  have d0 : w2.cell? ⟨w.heap.size, 0, none⟩ = some (.int .i64 V) := hx2.has (by simp [go_sem, World.cell?_alloc_past])
  have d1 : w2.cell? ⟨w.heap.size, 1, none⟩ = some (.int .i64 S) := hx2.has (by simp [go_sem, World.cell?_alloc_past])
  have d2 : w2.cell? ⟨w.heap.size, 2, none⟩ = some (.int .i64 P) := hx2.has (by simp [go_sem, World.cell?_alloc_past])
  have d3 : w2.cell? ⟨w.heap.size, 3, none⟩ = some (.int .i64 F) := hx2.has (by simp [go_sem, World.cell?_alloc_past])
  try go_simp
  refine hK.out _ _ (⟨d0, d1, d2, d3⟩) (fun hHeld => ?_); clear hK K; try simp only [Act.put, List.setIfInBounds_toArray, List.set_cons_zero, List.set_cons_succ]
  (refine' take_in 41 rfl (by kernel_rfl) (by kernel_rfl) (by kernel_rfl) (fun _ _ _ h => h) (by rfl) (by assumption) ?_ ?_; rotate_left; focus (intro w hSw; (try dsimp only at hSw); go_simp; try with_reducible rfl)); try simp only [Act.put, List.setIfInBounds_toArray, List.set_cons_zero, List.set_cons_succ]
  refine wpAnyH_done (by kernel_rfl) ?_ _
  go_wp2
  go_ret
  exact ⟨rfl, (by repeat (first | assumption | exact Ext.refl _ | refine Ext.drew ?_ | refine Ext.drewN ?_ _ | refine Ext.alloc ?_ _ | refine Ext.setCell ?_ (by first | omega | (simp; done) | (simp; omega)) _ | refine Ext.trans ?_ (by assumption)))⟩
set_option maxRecDepth 100000 in
set_option maxHeartbeats 4000000 in
theorem tCheck_3 (V S P F : Int) (w : World) (C1 : ∀ w, Calls Tryz.prog 85 #[.int .i64 V] w fun r w' => r = .returned (.bool false) ∧ w = w') (C2 : ∀ w, Calls Tryz.prog 86 #[.int .i64 S] w fun r w' => r = .returned (.bool false) ∧ w = w') (C3 : ∀ w, Calls Tryz.prog 87 #[.int .i64 P, .int .i64 (-1), .int .i64 31] w fun r w' => r = .returned (.bool true) ∧ w = w') :
    Calls Tryz.prog 59 #[.agg #[.int .i64 V, .int .i64 S, .int .i64 P, .int .i64 F]] w fun r w' => r = .returned (.int .i64 (firstR [(true, 3), (P == V, 2), (!((P == -1) == (F == 0)), 11), (decide (S < F), 9)])) ∧ Ext w w' := by
  go_enter Tryz.func59, Tryz.ntmps59
  go_wp2_with fail
  refine wp_region_held_drew (S := fun w' => w'.cell? ⟨w.heap.size, 0, none⟩ = some (.int .i64 V) ∧ w'.cell? ⟨w.heap.size, 1, none⟩ = some (.int .i64 S) ∧ w'.cell? ⟨w.heap.size, 2, none⟩ = some (.int .i64 P) ∧ w'.cell? ⟨w.heap.size, 3, none⟩ = some (.int .i64 F)) (by kernel_rfl) (by simp [go_sem]) (fun hHeld => ?_)
  (refine' take_in 0 rfl (by kernel_rfl) (by kernel_rfl) (by kernel_rfl) (fun _ _ _ h => h) (by rfl) (by assumption) ?_ ?_; rotate_left; focus (intro w hSw; (try dsimp only at hSw); go_simp; try with_reducible rfl)); try simp only [Act.put, List.setIfInBounds_toArray, List.set_cons_zero, List.set_cons_succ]
  (refine' take_in 1 rfl (by kernel_rfl) (by kernel_rfl) (by kernel_rfl) (fun _ _ _ h => h) (by rfl) (by assumption) ?_ ?_; rotate_left; focus (intro w hSw; (try dsimp only at hSw); go_simp; try with_reducible rfl)); try simp only [Act.put, List.setIfInBounds_toArray, List.set_cons_zero, List.set_cons_succ]
  (refine' take_in 19 rfl (by kernel_rfl) (by kernel_rfl) (by kernel_rfl) (fun _ _ _ h => h) (by rfl) (by assumption) ?_ ?_; rotate_left; focus (intro w hSw; (try dsimp only at hSw); go_simp; try with_reducible rfl)); try simp only [Act.put, List.setIfInBounds_toArray, List.set_cons_zero, List.set_cons_succ]
  (refine' take_in 20 rfl (by kernel_rfl) (by kernel_rfl) (by kernel_rfl) (fun _ _ _ h => h) (by rfl) (by assumption) ?_ ?_; rotate_left; focus (intro w hSw; (try dsimp only at hSw); go_simp; try with_reducible rfl)); try simp only [Act.put, List.setIfInBounds_toArray, List.set_cons_zero, List.set_cons_succ]
  (refine' take_in 21 rfl (by kernel_rfl) (by kernel_rfl) (by kernel_rfl) (fun _ _ _ h => h) (by rfl) (by assumption) ?_ ?_; rotate_left; focus (intro w hSw; (try dsimp only at hSw); go_simp; try with_reducible rfl)); try simp only [Act.put, List.setIfInBounds_toArray, List.set_cons_zero, List.set_cons_succ]
  (refine' take_in 22 rfl (by kernel_rfl) (by kernel_rfl) (by kernel_rfl) (fun _ _ _ h => h) (by rfl) (by assumption) ?_ ?_; rotate_left; focus (intro w hSw; (try dsimp only at hSw); go_simp; try with_reducible rfl)); try simp only [Act.put, List.setIfInBounds_toArray, List.set_cons_zero, List.set_cons_succ]
  (refine' take_in 23 rfl (by kernel_rfl) (by kernel_rfl) (by kernel_rfl) (fun _ _ _ h => h) (by rfl) (by assumption) ?_ ?_; rotate_left; focus (intro w hSw; (try dsimp only at hSw); go_simp; try with_reducible rfl)); try simp only [Act.put, List.setIfInBounds_toArray, List.set_cons_zero, List.set_cons_succ]
  (refine' take_in 24 rfl (by kernel_rfl) (by kernel_rfl) (by kernel_rfl) (fun _ _ _ h => h) (by rfl) (by assumption) ?_ ?_; rotate_left; focus (intro w hSw; (try dsimp only at hSw); go_simp; try with_reducible rfl)); try simp only [Act.put, List.setIfInBounds_toArray, List.set_cons_zero, List.set_cons_succ]
  (refine' take_in 25 rfl (by kernel_rfl) (by kernel_rfl) (by kernel_rfl) (fun _ _ _ h => h) (by rfl) (by assumption) ?_ ?_; rotate_left; focus (intro w hSw; (try dsimp only at hSw); go_simp; try with_reducible rfl)); try simp only [Act.put, List.setIfInBounds_toArray, List.set_cons_zero, List.set_cons_succ]
  (refine' take_in 26 rfl (by kernel_rfl) (by kernel_rfl) (by kernel_rfl) (fun _ _ _ h => h) (by rfl) (by assumption) ?_ ?_; rotate_left; focus (intro w hSw; (try dsimp only at hSw); go_simp; try with_reducible rfl)); try simp only [Act.put, List.setIfInBounds_toArray, List.set_cons_zero, List.set_cons_succ]
  (refine' take_in 27 rfl (by kernel_rfl) (by kernel_rfl) (by kernel_rfl) (fun _ _ _ h => h) (by rfl) (by assumption) ?_ ?_; rotate_left; focus (intro w hSw; (try dsimp only at hSw); go_simp; try with_reducible rfl)); try simp only [Act.put, List.setIfInBounds_toArray, List.set_cons_zero, List.set_cons_succ]
  (refine' take_in 28 rfl (by kernel_rfl) (by kernel_rfl) (by kernel_rfl) (fun _ _ _ h => h) (by rfl) (by assumption) ?_ ?_; rotate_left; focus (intro w hSw; (try dsimp only at hSw); go_simp; try with_reducible rfl)); try simp only [Act.put, List.setIfInBounds_toArray, List.set_cons_zero, List.set_cons_succ]
  (refine' take_in 29 rfl (by kernel_rfl) (by kernel_rfl) (by kernel_rfl) (fun _ _ _ h => h) (by rfl) (by assumption) ?_ ?_; rotate_left; focus (intro w hSw; (try dsimp only at hSw); go_simp; try with_reducible rfl)); try simp only [Act.put, List.setIfInBounds_toArray, List.set_cons_zero, List.set_cons_succ]
  (refine' take_in 30 rfl (by kernel_rfl) (by kernel_rfl) (by kernel_rfl) (fun _ _ _ h => h) (by rfl) (by assumption) ?_ ?_; rotate_left; focus (intro w hSw; (try dsimp only at hSw); go_simp; try with_reducible rfl)); try simp only [Act.put, List.setIfInBounds_toArray, List.set_cons_zero, List.set_cons_succ]
  (refine' take_in 31 rfl (by kernel_rfl) (by kernel_rfl) (by kernel_rfl) (fun _ _ _ h => h) (by rfl) (by assumption) ?_ ?_; rotate_left; focus (intro w hSw; (try dsimp only at hSw); go_simp; try with_reducible rfl)); try simp only [Act.put, List.setIfInBounds_toArray, List.set_cons_zero, List.set_cons_succ]
  (refine' take_in 32 rfl (by kernel_rfl) (by kernel_rfl) (by kernel_rfl) (fun _ _ _ h => h) (by rfl) (by assumption) ?_ ?_; rotate_left; focus (intro w hSw; (try dsimp only at hSw); go_simp; try with_reducible rfl)); try simp only [Act.put, List.setIfInBounds_toArray, List.set_cons_zero, List.set_cons_succ]
  (refine' take_in 33 rfl (by kernel_rfl) (by kernel_rfl) (by kernel_rfl) (fun _ _ _ h => h) (by rfl) (by assumption) ?_ ?_; rotate_left; focus (intro w hSw; (try dsimp only at hSw); go_simp; try with_reducible rfl)); try simp only [Act.put, List.setIfInBounds_toArray, List.set_cons_zero, List.set_cons_succ]
  (refine' take_in 34 rfl (by kernel_rfl) (by kernel_rfl) (by kernel_rfl) (fun _ _ _ h => h) (by rfl) (by assumption) ?_ ?_; rotate_left; focus (intro w hSw; (try dsimp only at hSw); go_simp; try with_reducible rfl)); try simp only [Act.put, List.setIfInBounds_toArray, List.set_cons_zero, List.set_cons_succ]
  (refine' take_in 35 rfl (by kernel_rfl) (by kernel_rfl) (by kernel_rfl) (fun _ _ _ h => h) (by rfl) (by assumption) ?_ ?_; rotate_left; focus (intro w hSw; (try dsimp only at hSw); go_simp; try with_reducible rfl)); try simp only [Act.put, List.setIfInBounds_toArray, List.set_cons_zero, List.set_cons_succ]
  (refine' take_in 36 rfl (by kernel_rfl) (by kernel_rfl) (by kernel_rfl) (fun _ _ _ h => h) (by rfl) (by assumption) ?_ ?_; rotate_left; focus (intro w hSw; (try dsimp only at hSw); go_simp; try with_reducible rfl)); try simp only [Act.put, List.setIfInBounds_toArray, List.set_cons_zero, List.set_cons_succ]
  (refine' take_in 37 rfl (by kernel_rfl) (by kernel_rfl) (by kernel_rfl) (fun _ _ _ h => h) (by rfl) (by assumption) ?_ ?_; rotate_left; focus (intro w hSw; (try dsimp only at hSw); go_simp; try with_reducible rfl)); try simp only [Act.put, List.setIfInBounds_toArray, List.set_cons_zero, List.set_cons_succ]
  (refine' take_in 38 rfl (by kernel_rfl) (by kernel_rfl) (by kernel_rfl) (fun _ _ _ h => h) (by rfl) (by assumption) ?_ ?_; rotate_left; focus (intro w hSw; (try dsimp only at hSw); go_simp; try with_reducible rfl)); try simp only [Act.put, List.setIfInBounds_toArray, List.set_cons_zero, List.set_cons_succ]
  refine' next_in 2 rfl (by kernel_rfl) (by rfl) (fun K hK => ?_)
  (go_simp; go_at_call 85; refine (C1 _).mono ?_; rintro e w1 ⟨rfl, rfl⟩; try go_simp)
  refine hK.out _ _ (by simp [go_sem, World.cell?_alloc_past]) (fun hHeld => ?_); clear hK K; try simp only [Act.put, List.setIfInBounds_toArray, List.set_cons_zero, List.set_cons_succ]
  (refine' take_in 3 rfl (by kernel_rfl) (by kernel_rfl) (by kernel_rfl) (fun _ _ _ h => h) (by rfl) (by assumption) ?_ ?_; rotate_left; focus (intro w hSw; (try dsimp only at hSw); go_simp; try with_reducible rfl)); try simp only [Act.put, List.setIfInBounds_toArray, List.set_cons_zero, List.set_cons_succ]
  (refine' take_in 4 rfl (by kernel_rfl) (by kernel_rfl) (by kernel_rfl) (fun _ _ _ h => h) (by rfl) (by assumption) ?_ ?_; rotate_left; focus (intro w hSw; (try dsimp only at hSw); go_simp; try with_reducible rfl)); try simp only [Act.put, List.setIfInBounds_toArray, List.set_cons_zero, List.set_cons_succ]
  (refine' take_in 5 rfl (by kernel_rfl) (by kernel_rfl) (by kernel_rfl) (fun _ _ _ h => h) (by rfl) (by assumption) ?_ ?_; rotate_left; focus (intro w hSw; (try dsimp only at hSw); go_simp; try with_reducible rfl)); try simp only [Act.put, List.setIfInBounds_toArray, List.set_cons_zero, List.set_cons_succ]
  refine' next_in 6 rfl (by kernel_rfl) (by rfl) (fun K hK => ?_)
  (go_simp; go_at_call 86; refine (C2 _).mono ?_; rintro e w1 ⟨rfl, rfl⟩; try go_simp)
  refine hK.out _ _ (by simp [go_sem, World.cell?_alloc_past]) (fun hHeld => ?_); clear hK K; try simp only [Act.put, List.setIfInBounds_toArray, List.set_cons_zero, List.set_cons_succ]
  (refine' take_in 7 rfl (by kernel_rfl) (by kernel_rfl) (by kernel_rfl) (fun _ _ _ h => h) (by rfl) (by assumption) ?_ ?_; rotate_left; focus (intro w hSw; (try dsimp only at hSw); go_simp; try with_reducible rfl)); try simp only [Act.put, List.setIfInBounds_toArray, List.set_cons_zero, List.set_cons_succ]
  (refine' take_in 8 rfl (by kernel_rfl) (by kernel_rfl) (by kernel_rfl) (fun _ _ _ h => h) (by rfl) (by assumption) ?_ ?_; rotate_left; focus (intro w hSw; (try dsimp only at hSw); go_simp; try with_reducible rfl)); try simp only [Act.put, List.setIfInBounds_toArray, List.set_cons_zero, List.set_cons_succ]
  (refine' take_in 9 rfl (by kernel_rfl) (by kernel_rfl) (by kernel_rfl) (fun _ _ _ h => h) (by rfl) (by assumption) ?_ ?_; rotate_left; focus (intro w hSw; (try dsimp only at hSw); go_simp; try with_reducible rfl)); try simp only [Act.put, List.setIfInBounds_toArray, List.set_cons_zero, List.set_cons_succ]
  (refine' take_in 10 rfl (by kernel_rfl) (by kernel_rfl) (by kernel_rfl) (fun _ _ _ h => h) (by rfl) (by assumption) ?_ ?_; rotate_left; focus (intro w hSw; (try dsimp only at hSw); go_simp; try with_reducible rfl)); try simp only [Act.put, List.setIfInBounds_toArray, List.set_cons_zero, List.set_cons_succ]
  refine' next_in 11 rfl (by kernel_rfl) (by rfl) (fun K hK => ?_)
  (go_simp; go_at_call 87; refine (C3 _).mono ?_; rintro e w1 ⟨rfl, rfl⟩; try go_simp)
  refine hK.out _ _ (by simp [go_sem, World.cell?_alloc_past]) (fun hHeld => ?_); clear hK K; try simp only [Act.put, List.setIfInBounds_toArray, List.set_cons_zero, List.set_cons_succ]
  (refine' take_in 12 rfl (by kernel_rfl) (by kernel_rfl) (by kernel_rfl) (fun _ _ _ h => h) (by rfl) (by assumption) ?_ ?_; rotate_left; focus (intro w hSw; (try dsimp only at hSw); go_simp; try with_reducible rfl)); try simp only [Act.put, List.setIfInBounds_toArray, List.set_cons_zero, List.set_cons_succ]
  (refine' take_in 13 rfl (by kernel_rfl) (by kernel_rfl) (by kernel_rfl) (fun _ _ _ h => h) (by rfl) (by assumption) ?_ ?_; rotate_left; focus (intro w hSw; (try dsimp only at hSw); go_simp; try with_reducible rfl)); try simp only [Act.put, List.setIfInBounds_toArray, List.set_cons_zero, List.set_cons_succ]
  (refine' skip_in 14 rfl (by kernel_rfl) (by kernel_rfl) (by kernel_rfl) (fun _ _ _ h => h) (by rfl) (by assumption) ?_); try simp only [Act.put, List.setIfInBounds_toArray, List.set_cons_zero, List.set_cons_succ]
  (refine' skip_in 15 rfl (by kernel_rfl) (by kernel_rfl) (by kernel_rfl) (fun _ _ _ h => h) (by rfl) (by assumption) ?_); try simp only [Act.put, List.setIfInBounds_toArray, List.set_cons_zero, List.set_cons_succ]
  (refine' skip_in 16 rfl (by kernel_rfl) (by kernel_rfl) (by kernel_rfl) (fun _ _ _ h => h) (by rfl) (by assumption) ?_); try simp only [Act.put, List.setIfInBounds_toArray, List.set_cons_zero, List.set_cons_succ]
  (refine' take_in 17 rfl (by kernel_rfl) (by kernel_rfl) (by kernel_rfl) (fun _ _ _ h => h) (by rfl) (by assumption) ?_ ?_; rotate_left; focus (intro w hSw; (try dsimp only at hSw); go_simp; try with_reducible rfl)); try simp only [Act.put, List.setIfInBounds_toArray, List.set_cons_zero, List.set_cons_succ]
  (refine' take_in 18 rfl (by kernel_rfl) (by kernel_rfl) (by kernel_rfl) (fun _ _ _ h => h) (by rfl) (by assumption) ?_ ?_; rotate_left; focus (intro w hSw; (try dsimp only at hSw); go_simp; try with_reducible rfl)); try simp only [Act.put, List.setIfInBounds_toArray, List.set_cons_zero, List.set_cons_succ]
  refine' next_in 39 rfl (by kernel_rfl) (by rfl) (fun K hK => ?_)
  go_simp
  refine hK.out _ _ (by simp [go_sem, World.cell?_alloc_past]) (fun hHeld => ?_); clear hK K; try simp only [Act.put, List.setIfInBounds_toArray, List.set_cons_zero, List.set_cons_succ]
  refine' next_in 40 rfl (by kernel_rfl) (by rfl) (fun K hK => ?_)
  (go_simp; go_at_call 84; (with_reducible refine (tfirst_any (some ⟨w.heap.size + 1, 0, none⟩) 4 4 [(true, 3), (P == V, 2), (!((P == -1) == (F == 0)), 11), (decide (S < F), 9)] _ (sl_rules _ 123 _ (by simp) _ _ _ _ _ _ _ _)).mono ?_); rintro e w2 ⟨rfl, hx2⟩)
  have d0 : w2.cell? ⟨w.heap.size, 0, none⟩ = some (.int .i64 V) := hx2.has (by simp [go_sem, World.cell?_alloc_past])
  have d1 : w2.cell? ⟨w.heap.size, 1, none⟩ = some (.int .i64 S) := hx2.has (by simp [go_sem, World.cell?_alloc_past])
  have d2 : w2.cell? ⟨w.heap.size, 2, none⟩ = some (.int .i64 P) := hx2.has (by simp [go_sem, World.cell?_alloc_past])
  have d3 : w2.cell? ⟨w.heap.size, 3, none⟩ = some (.int .i64 F) := hx2.has (by simp [go_sem, World.cell?_alloc_past])
  try go_simp
  refine hK.out _ _ (⟨d0, d1, d2, d3⟩) (fun hHeld => ?_); clear hK K; try simp only [Act.put, List.setIfInBounds_toArray, List.set_cons_zero, List.set_cons_succ]
  (refine' take_in 41 rfl (by kernel_rfl) (by kernel_rfl) (by kernel_rfl) (fun _ _ _ h => h) (by rfl) (by assumption) ?_ ?_; rotate_left; focus (intro w hSw; (try dsimp only at hSw); go_simp; try with_reducible rfl)); try simp only [Act.put, List.setIfInBounds_toArray, List.set_cons_zero, List.set_cons_succ]
  refine wpAnyH_done (by kernel_rfl) ?_ _
  go_wp2
  go_ret
  exact ⟨rfl, (by repeat (first | assumption | exact Ext.refl _ | refine Ext.drew ?_ | refine Ext.drewN ?_ _ | refine Ext.alloc ?_ _ | refine Ext.setCell ?_ (by first | omega | (simp; done) | (simp; omega)) _ | refine Ext.trans ?_ (by assumption)))⟩
set_option maxRecDepth 100000 in
set_option maxHeartbeats 4000000 in
theorem tCheck_4 (V S P F : Int) (w : World) (C1 : ∀ w, Calls Tryz.prog 85 #[.int .i64 V] w fun r w' => r = .returned (.bool false) ∧ w = w') (C2 : ∀ w, Calls Tryz.prog 86 #[.int .i64 S] w fun r w' => r = .returned (.bool false) ∧ w = w') (C3 : ∀ w, Calls Tryz.prog 87 #[.int .i64 P, .int .i64 (-1), .int .i64 31] w fun r w' => r = .returned (.bool false) ∧ w = w') (C4 : ∀ w, Calls Tryz.prog 87 #[.int .i64 F, .int .i64 0, .int .i64 4294967296] w fun r w' => r = .returned (.bool true) ∧ w = w') :
    Calls Tryz.prog 59 #[.agg #[.int .i64 V, .int .i64 S, .int .i64 P, .int .i64 F]] w fun r w' => r = .returned (.int .i64 (firstR [(true, 3), (P == V, 2), (!((P == -1) == (F == 0)), 11), (decide (S < F), 9)])) ∧ Ext w w' := by
  go_enter Tryz.func59, Tryz.ntmps59
  go_wp2_with fail
  refine wp_region_held_drew (S := fun w' => w'.cell? ⟨w.heap.size, 0, none⟩ = some (.int .i64 V) ∧ w'.cell? ⟨w.heap.size, 1, none⟩ = some (.int .i64 S) ∧ w'.cell? ⟨w.heap.size, 2, none⟩ = some (.int .i64 P) ∧ w'.cell? ⟨w.heap.size, 3, none⟩ = some (.int .i64 F)) (by kernel_rfl) (by simp [go_sem]) (fun hHeld => ?_)
  (refine' take_in 0 rfl (by kernel_rfl) (by kernel_rfl) (by kernel_rfl) (fun _ _ _ h => h) (by rfl) (by assumption) ?_ ?_; rotate_left; focus (intro w hSw; (try dsimp only at hSw); go_simp; try with_reducible rfl)); try simp only [Act.put, List.setIfInBounds_toArray, List.set_cons_zero, List.set_cons_succ]
  (refine' take_in 1 rfl (by kernel_rfl) (by kernel_rfl) (by kernel_rfl) (fun _ _ _ h => h) (by rfl) (by assumption) ?_ ?_; rotate_left; focus (intro w hSw; (try dsimp only at hSw); go_simp; try with_reducible rfl)); try simp only [Act.put, List.setIfInBounds_toArray, List.set_cons_zero, List.set_cons_succ]
  (refine' take_in 19 rfl (by kernel_rfl) (by kernel_rfl) (by kernel_rfl) (fun _ _ _ h => h) (by rfl) (by assumption) ?_ ?_; rotate_left; focus (intro w hSw; (try dsimp only at hSw); go_simp; try with_reducible rfl)); try simp only [Act.put, List.setIfInBounds_toArray, List.set_cons_zero, List.set_cons_succ]
  (refine' take_in 20 rfl (by kernel_rfl) (by kernel_rfl) (by kernel_rfl) (fun _ _ _ h => h) (by rfl) (by assumption) ?_ ?_; rotate_left; focus (intro w hSw; (try dsimp only at hSw); go_simp; try with_reducible rfl)); try simp only [Act.put, List.setIfInBounds_toArray, List.set_cons_zero, List.set_cons_succ]
  (refine' take_in 21 rfl (by kernel_rfl) (by kernel_rfl) (by kernel_rfl) (fun _ _ _ h => h) (by rfl) (by assumption) ?_ ?_; rotate_left; focus (intro w hSw; (try dsimp only at hSw); go_simp; try with_reducible rfl)); try simp only [Act.put, List.setIfInBounds_toArray, List.set_cons_zero, List.set_cons_succ]
  (refine' take_in 22 rfl (by kernel_rfl) (by kernel_rfl) (by kernel_rfl) (fun _ _ _ h => h) (by rfl) (by assumption) ?_ ?_; rotate_left; focus (intro w hSw; (try dsimp only at hSw); go_simp; try with_reducible rfl)); try simp only [Act.put, List.setIfInBounds_toArray, List.set_cons_zero, List.set_cons_succ]
  (refine' take_in 23 rfl (by kernel_rfl) (by kernel_rfl) (by kernel_rfl) (fun _ _ _ h => h) (by rfl) (by assumption) ?_ ?_; rotate_left; focus (intro w hSw; (try dsimp only at hSw); go_simp; try with_reducible rfl)); try simp only [Act.put, List.setIfInBounds_toArray, List.set_cons_zero, List.set_cons_succ]
  (refine' take_in 24 rfl (by kernel_rfl) (by kernel_rfl) (by kernel_rfl) (fun _ _ _ h => h) (by rfl) (by assumption) ?_ ?_; rotate_left; focus (intro w hSw; (try dsimp only at hSw); go_simp; try with_reducible rfl)); try simp only [Act.put, List.setIfInBounds_toArray, List.set_cons_zero, List.set_cons_succ]
  (refine' take_in 25 rfl (by kernel_rfl) (by kernel_rfl) (by kernel_rfl) (fun _ _ _ h => h) (by rfl) (by assumption) ?_ ?_; rotate_left; focus (intro w hSw; (try dsimp only at hSw); go_simp; try with_reducible rfl)); try simp only [Act.put, List.setIfInBounds_toArray, List.set_cons_zero, List.set_cons_succ]
  (refine' take_in 26 rfl (by kernel_rfl) (by kernel_rfl) (by kernel_rfl) (fun _ _ _ h => h) (by rfl) (by assumption) ?_ ?_; rotate_left; focus (intro w hSw; (try dsimp only at hSw); go_simp; try with_reducible rfl)); try simp only [Act.put, List.setIfInBounds_toArray, List.set_cons_zero, List.set_cons_succ]
  (refine' take_in 27 rfl (by kernel_rfl) (by kernel_rfl) (by kernel_rfl) (fun _ _ _ h => h) (by rfl) (by assumption) ?_ ?_; rotate_left; focus (intro w hSw; (try dsimp only at hSw); go_simp; try with_reducible rfl)); try simp only [Act.put, List.setIfInBounds_toArray, List.set_cons_zero, List.set_cons_succ]
  (refine' take_in 28 rfl (by kernel_rfl) (by kernel_rfl) (by kernel_rfl) (fun _ _ _ h => h) (by rfl) (by assumption) ?_ ?_; rotate_left; focus (intro w hSw; (try dsimp only at hSw); go_simp; try with_reducible rfl)); try simp only [Act.put, List.setIfInBounds_toArray, List.set_cons_zero, List.set_cons_succ]
  (refine' take_in 29 rfl (by kernel_rfl) (by kernel_rfl) (by kernel_rfl) (fun _ _ _ h => h) (by rfl) (by assumption) ?_ ?_; rotate_left; focus (intro w hSw; (try dsimp only at hSw); go_simp; try with_reducible rfl)); try simp only [Act.put, List.setIfInBounds_toArray, List.set_cons_zero, List.set_cons_succ]
  (refine' take_in 30 rfl (by kernel_rfl) (by kernel_rfl) (by kernel_rfl) (fun _ _ _ h => h) (by rfl) (by assumption) ?_ ?_; rotate_left; focus (intro w hSw; (try dsimp only at hSw); go_simp; try with_reducible rfl)); try simp only [Act.put, List.setIfInBounds_toArray, List.set_cons_zero, List.set_cons_succ]
  (refine' take_in 31 rfl (by kernel_rfl) (by kernel_rfl) (by kernel_rfl) (fun _ _ _ h => h) (by rfl) (by assumption) ?_ ?_; rotate_left; focus (intro w hSw; (try dsimp only at hSw); go_simp; try with_reducible rfl)); try simp only [Act.put, List.setIfInBounds_toArray, List.set_cons_zero, List.set_cons_succ]
  (refine' take_in 32 rfl (by kernel_rfl) (by kernel_rfl) (by kernel_rfl) (fun _ _ _ h => h) (by rfl) (by assumption) ?_ ?_; rotate_left; focus (intro w hSw; (try dsimp only at hSw); go_simp; try with_reducible rfl)); try simp only [Act.put, List.setIfInBounds_toArray, List.set_cons_zero, List.set_cons_succ]
  (refine' take_in 33 rfl (by kernel_rfl) (by kernel_rfl) (by kernel_rfl) (fun _ _ _ h => h) (by rfl) (by assumption) ?_ ?_; rotate_left; focus (intro w hSw; (try dsimp only at hSw); go_simp; try with_reducible rfl)); try simp only [Act.put, List.setIfInBounds_toArray, List.set_cons_zero, List.set_cons_succ]
  (refine' take_in 34 rfl (by kernel_rfl) (by kernel_rfl) (by kernel_rfl) (fun _ _ _ h => h) (by rfl) (by assumption) ?_ ?_; rotate_left; focus (intro w hSw; (try dsimp only at hSw); go_simp; try with_reducible rfl)); try simp only [Act.put, List.setIfInBounds_toArray, List.set_cons_zero, List.set_cons_succ]
  (refine' take_in 35 rfl (by kernel_rfl) (by kernel_rfl) (by kernel_rfl) (fun _ _ _ h => h) (by rfl) (by assumption) ?_ ?_; rotate_left; focus (intro w hSw; (try dsimp only at hSw); go_simp; try with_reducible rfl)); try simp only [Act.put, List.setIfInBounds_toArray, List.set_cons_zero, List.set_cons_succ]
  (refine' take_in 36 rfl (by kernel_rfl) (by kernel_rfl) (by kernel_rfl) (fun _ _ _ h => h) (by rfl) (by assumption) ?_ ?_; rotate_left; focus (intro w hSw; (try dsimp only at hSw); go_simp; try with_reducible rfl)); try simp only [Act.put, List.setIfInBounds_toArray, List.set_cons_zero, List.set_cons_succ]
  (refine' take_in 37 rfl (by kernel_rfl) (by kernel_rfl) (by kernel_rfl) (fun _ _ _ h => h) (by rfl) (by assumption) ?_ ?_; rotate_left; focus (intro w hSw; (try dsimp only at hSw); go_simp; try with_reducible rfl)); try simp only [Act.put, List.setIfInBounds_toArray, List.set_cons_zero, List.set_cons_succ]
  (refine' take_in 38 rfl (by kernel_rfl) (by kernel_rfl) (by kernel_rfl) (fun _ _ _ h => h) (by rfl) (by assumption) ?_ ?_; rotate_left; focus (intro w hSw; (try dsimp only at hSw); go_simp; try with_reducible rfl)); try simp only [Act.put, List.setIfInBounds_toArray, List.set_cons_zero, List.set_cons_succ]
  refine' next_in 2 rfl (by kernel_rfl) (by rfl) (fun K hK => ?_)
  (go_simp; go_at_call 85; refine (C1 _).mono ?_; rintro e w1 ⟨rfl, rfl⟩; try go_simp)
  refine hK.out _ _ (by simp [go_sem, World.cell?_alloc_past]) (fun hHeld => ?_); clear hK K; try simp only [Act.put, List.setIfInBounds_toArray, List.set_cons_zero, List.set_cons_succ]
  (refine' take_in 3 rfl (by kernel_rfl) (by kernel_rfl) (by kernel_rfl) (fun _ _ _ h => h) (by rfl) (by assumption) ?_ ?_; rotate_left; focus (intro w hSw; (try dsimp only at hSw); go_simp; try with_reducible rfl)); try simp only [Act.put, List.setIfInBounds_toArray, List.set_cons_zero, List.set_cons_succ]
  (refine' take_in 4 rfl (by kernel_rfl) (by kernel_rfl) (by kernel_rfl) (fun _ _ _ h => h) (by rfl) (by assumption) ?_ ?_; rotate_left; focus (intro w hSw; (try dsimp only at hSw); go_simp; try with_reducible rfl)); try simp only [Act.put, List.setIfInBounds_toArray, List.set_cons_zero, List.set_cons_succ]
  (refine' take_in 5 rfl (by kernel_rfl) (by kernel_rfl) (by kernel_rfl) (fun _ _ _ h => h) (by rfl) (by assumption) ?_ ?_; rotate_left; focus (intro w hSw; (try dsimp only at hSw); go_simp; try with_reducible rfl)); try simp only [Act.put, List.setIfInBounds_toArray, List.set_cons_zero, List.set_cons_succ]
  refine' next_in 6 rfl (by kernel_rfl) (by rfl) (fun K hK => ?_)
  (go_simp; go_at_call 86; refine (C2 _).mono ?_; rintro e w1 ⟨rfl, rfl⟩; try go_simp)
  refine hK.out _ _ (by simp [go_sem, World.cell?_alloc_past]) (fun hHeld => ?_); clear hK K; try simp only [Act.put, List.setIfInBounds_toArray, List.set_cons_zero, List.set_cons_succ]
  (refine' take_in 7 rfl (by kernel_rfl) (by kernel_rfl) (by kernel_rfl) (fun _ _ _ h => h) (by rfl) (by assumption) ?_ ?_; rotate_left; focus (intro w hSw; (try dsimp only at hSw); go_simp; try with_reducible rfl)); try simp only [Act.put, List.setIfInBounds_toArray, List.set_cons_zero, List.set_cons_succ]
  (refine' take_in 8 rfl (by kernel_rfl) (by kernel_rfl) (by kernel_rfl) (fun _ _ _ h => h) (by rfl) (by assumption) ?_ ?_; rotate_left; focus (intro w hSw; (try dsimp only at hSw); go_simp; try with_reducible rfl)); try simp only [Act.put, List.setIfInBounds_toArray, List.set_cons_zero, List.set_cons_succ]
  (refine' take_in 9 rfl (by kernel_rfl) (by kernel_rfl) (by kernel_rfl) (fun _ _ _ h => h) (by rfl) (by assumption) ?_ ?_; rotate_left; focus (intro w hSw; (try dsimp only at hSw); go_simp; try with_reducible rfl)); try simp only [Act.put, List.setIfInBounds_toArray, List.set_cons_zero, List.set_cons_succ]
  (refine' take_in 10 rfl (by kernel_rfl) (by kernel_rfl) (by kernel_rfl) (fun _ _ _ h => h) (by rfl) (by assumption) ?_ ?_; rotate_left; focus (intro w hSw; (try dsimp only at hSw); go_simp; try with_reducible rfl)); try simp only [Act.put, List.setIfInBounds_toArray, List.set_cons_zero, List.set_cons_succ]
  refine' next_in 11 rfl (by kernel_rfl) (by rfl) (fun K hK => ?_)
  (go_simp; go_at_call 87; refine (C3 _).mono ?_; rintro e w1 ⟨rfl, rfl⟩; try go_simp)
  refine hK.out _ _ (by simp [go_sem, World.cell?_alloc_past]) (fun hHeld => ?_); clear hK K; try simp only [Act.put, List.setIfInBounds_toArray, List.set_cons_zero, List.set_cons_succ]
  (refine' take_in 12 rfl (by kernel_rfl) (by kernel_rfl) (by kernel_rfl) (fun _ _ _ h => h) (by rfl) (by assumption) ?_ ?_; rotate_left; focus (intro w hSw; (try dsimp only at hSw); go_simp; try with_reducible rfl)); try simp only [Act.put, List.setIfInBounds_toArray, List.set_cons_zero, List.set_cons_succ]
  (refine' take_in 13 rfl (by kernel_rfl) (by kernel_rfl) (by kernel_rfl) (fun _ _ _ h => h) (by rfl) (by assumption) ?_ ?_; rotate_left; focus (intro w hSw; (try dsimp only at hSw); go_simp; try with_reducible rfl)); try simp only [Act.put, List.setIfInBounds_toArray, List.set_cons_zero, List.set_cons_succ]
  (refine' take_in 14 rfl (by kernel_rfl) (by kernel_rfl) (by kernel_rfl) (fun _ _ _ h => h) (by rfl) (by assumption) ?_ ?_; rotate_left; focus (intro w hSw; (try dsimp only at hSw); go_simp; try with_reducible rfl)); try simp only [Act.put, List.setIfInBounds_toArray, List.set_cons_zero, List.set_cons_succ]
  (refine' take_in 15 rfl (by kernel_rfl) (by kernel_rfl) (by kernel_rfl) (fun _ _ _ h => h) (by rfl) (by assumption) ?_ ?_; rotate_left; focus (intro w hSw; (try dsimp only at hSw); go_simp; try with_reducible rfl)); try simp only [Act.put, List.setIfInBounds_toArray, List.set_cons_zero, List.set_cons_succ]
  refine' next_in 16 rfl (by kernel_rfl) (by rfl) (fun K hK => ?_)
  (go_simp; go_at_call 87; refine (C4 _).mono ?_; rintro e w1 ⟨rfl, rfl⟩; try go_simp)
  refine hK.out _ _ (by simp [go_sem, World.cell?_alloc_past]) (fun hHeld => ?_); clear hK K; try simp only [Act.put, List.setIfInBounds_toArray, List.set_cons_zero, List.set_cons_succ]
  (refine' take_in 17 rfl (by kernel_rfl) (by kernel_rfl) (by kernel_rfl) (fun _ _ _ h => h) (by rfl) (by assumption) ?_ ?_; rotate_left; focus (intro w hSw; (try dsimp only at hSw); go_simp; try with_reducible rfl)); try simp only [Act.put, List.setIfInBounds_toArray, List.set_cons_zero, List.set_cons_succ]
  (refine' take_in 18 rfl (by kernel_rfl) (by kernel_rfl) (by kernel_rfl) (fun _ _ _ h => h) (by rfl) (by assumption) ?_ ?_; rotate_left; focus (intro w hSw; (try dsimp only at hSw); go_simp; try with_reducible rfl)); try simp only [Act.put, List.setIfInBounds_toArray, List.set_cons_zero, List.set_cons_succ]
  refine' next_in 39 rfl (by kernel_rfl) (by rfl) (fun K hK => ?_)
  go_simp
  refine hK.out _ _ (by simp [go_sem, World.cell?_alloc_past]) (fun hHeld => ?_); clear hK K; try simp only [Act.put, List.setIfInBounds_toArray, List.set_cons_zero, List.set_cons_succ]
  refine' next_in 40 rfl (by kernel_rfl) (by rfl) (fun K hK => ?_)
  (go_simp; go_at_call 84; (with_reducible refine (tfirst_any (some ⟨w.heap.size + 1, 0, none⟩) 4 4 [(true, 3), (P == V, 2), (!((P == -1) == (F == 0)), 11), (decide (S < F), 9)] _ (sl_rules _ 123 _ (by simp) _ _ _ _ _ _ _ _)).mono ?_); rintro e w2 ⟨rfl, hx2⟩)
  have d0 : w2.cell? ⟨w.heap.size, 0, none⟩ = some (.int .i64 V) := hx2.has (by simp [go_sem, World.cell?_alloc_past])
  have d1 : w2.cell? ⟨w.heap.size, 1, none⟩ = some (.int .i64 S) := hx2.has (by simp [go_sem, World.cell?_alloc_past])
  have d2 : w2.cell? ⟨w.heap.size, 2, none⟩ = some (.int .i64 P) := hx2.has (by simp [go_sem, World.cell?_alloc_past])
  have d3 : w2.cell? ⟨w.heap.size, 3, none⟩ = some (.int .i64 F) := hx2.has (by simp [go_sem, World.cell?_alloc_past])
  try go_simp
  refine hK.out _ _ (⟨d0, d1, d2, d3⟩) (fun hHeld => ?_); clear hK K; try simp only [Act.put, List.setIfInBounds_toArray, List.set_cons_zero, List.set_cons_succ]
  (refine' take_in 41 rfl (by kernel_rfl) (by kernel_rfl) (by kernel_rfl) (fun _ _ _ h => h) (by rfl) (by assumption) ?_ ?_; rotate_left; focus (intro w hSw; (try dsimp only at hSw); go_simp; try with_reducible rfl)); try simp only [Act.put, List.setIfInBounds_toArray, List.set_cons_zero, List.set_cons_succ]
  refine wpAnyH_done (by kernel_rfl) ?_ _
  go_wp2
  go_ret
  exact ⟨rfl, (by repeat (first | assumption | exact Ext.refl _ | refine Ext.drew ?_ | refine Ext.drewN ?_ _ | refine Ext.alloc ?_ _ | refine Ext.setCell ?_ (by first | omega | (simp; done) | (simp; omega)) _ | refine Ext.trans ?_ (by assumption)))⟩
set_option maxRecDepth 100000 in
set_option maxHeartbeats 4000000 in
theorem tCheck_0 (V S P F : Int) (w : World) (C1 : ∀ w, Calls Tryz.prog 85 #[.int .i64 V] w fun r w' => r = .returned (.bool false) ∧ w = w') (C2 : ∀ w, Calls Tryz.prog 86 #[.int .i64 S] w fun r w' => r = .returned (.bool false) ∧ w = w') (C3 : ∀ w, Calls Tryz.prog 87 #[.int .i64 P, .int .i64 (-1), .int .i64 31] w fun r w' => r = .returned (.bool false) ∧ w = w') (C4 : ∀ w, Calls Tryz.prog 87 #[.int .i64 F, .int .i64 0, .int .i64 4294967296] w fun r w' => r = .returned (.bool false) ∧ w = w') :
    Calls Tryz.prog 59 #[.agg #[.int .i64 V, .int .i64 S, .int .i64 P, .int .i64 F]] w fun r w' => r = .returned (.int .i64 (firstR [(false, 3), (P == V, 2), (!((P == -1) == (F == 0)), 11), (decide (S < F), 9)])) ∧ Ext w w' := by
  go_enter Tryz.func59, Tryz.ntmps59
  go_wp2_with fail
  refine wp_region_held_drew (S := fun w' => w'.cell? ⟨w.heap.size, 0, none⟩ = some (.int .i64 V) ∧ w'.cell? ⟨w.heap.size, 1, none⟩ = some (.int .i64 S) ∧ w'.cell? ⟨w.heap.size, 2, none⟩ = some (.int .i64 P) ∧ w'.cell? ⟨w.heap.size, 3, none⟩ = some (.int .i64 F)) (by kernel_rfl) (by simp [go_sem]) (fun hHeld => ?_)
  (refine' take_in 0 rfl (by kernel_rfl) (by kernel_rfl) (by kernel_rfl) (fun _ _ _ h => h) (by rfl) (by assumption) ?_ ?_; rotate_left; focus (intro w hSw; (try dsimp only at hSw); go_simp; try with_reducible rfl)); try simp only [Act.put, List.setIfInBounds_toArray, List.set_cons_zero, List.set_cons_succ]
  (refine' take_in 1 rfl (by kernel_rfl) (by kernel_rfl) (by kernel_rfl) (fun _ _ _ h => h) (by rfl) (by assumption) ?_ ?_; rotate_left; focus (intro w hSw; (try dsimp only at hSw); go_simp; try with_reducible rfl)); try simp only [Act.put, List.setIfInBounds_toArray, List.set_cons_zero, List.set_cons_succ]
  (refine' take_in 19 rfl (by kernel_rfl) (by kernel_rfl) (by kernel_rfl) (fun _ _ _ h => h) (by rfl) (by assumption) ?_ ?_; rotate_left; focus (intro w hSw; (try dsimp only at hSw); go_simp; try with_reducible rfl)); try simp only [Act.put, List.setIfInBounds_toArray, List.set_cons_zero, List.set_cons_succ]
  (refine' take_in 20 rfl (by kernel_rfl) (by kernel_rfl) (by kernel_rfl) (fun _ _ _ h => h) (by rfl) (by assumption) ?_ ?_; rotate_left; focus (intro w hSw; (try dsimp only at hSw); go_simp; try with_reducible rfl)); try simp only [Act.put, List.setIfInBounds_toArray, List.set_cons_zero, List.set_cons_succ]
  (refine' take_in 21 rfl (by kernel_rfl) (by kernel_rfl) (by kernel_rfl) (fun _ _ _ h => h) (by rfl) (by assumption) ?_ ?_; rotate_left; focus (intro w hSw; (try dsimp only at hSw); go_simp; try with_reducible rfl)); try simp only [Act.put, List.setIfInBounds_toArray, List.set_cons_zero, List.set_cons_succ]
  (refine' take_in 22 rfl (by kernel_rfl) (by kernel_rfl) (by kernel_rfl) (fun _ _ _ h => h) (by rfl) (by assumption) ?_ ?_; rotate_left; focus (intro w hSw; (try dsimp only at hSw); go_simp; try with_reducible rfl)); try simp only [Act.put, List.setIfInBounds_toArray, List.set_cons_zero, List.set_cons_succ]
  (refine' take_in 23 rfl (by kernel_rfl) (by kernel_rfl) (by kernel_rfl) (fun _ _ _ h => h) (by rfl) (by assumption) ?_ ?_; rotate_left; focus (intro w hSw; (try dsimp only at hSw); go_simp; try with_reducible rfl)); try simp only [Act.put, List.setIfInBounds_toArray, List.set_cons_zero, List.set_cons_succ]
  (refine' take_in 24 rfl (by kernel_rfl) (by kernel_rfl) (by kernel_rfl) (fun _ _ _ h => h) (by rfl) (by assumption) ?_ ?_; rotate_left; focus (intro w hSw; (try dsimp only at hSw); go_simp; try with_reducible rfl)); try simp only [Act.put, List.setIfInBounds_toArray, List.set_cons_zero, List.set_cons_succ]
  (refine' take_in 25 rfl (by kernel_rfl) (by kernel_rfl) (by kernel_rfl) (fun _ _ _ h => h) (by rfl) (by assumption) ?_ ?_; rotate_left; focus (intro w hSw; (try dsimp only at hSw); go_simp; try with_reducible rfl)); try simp only [Act.put, List.setIfInBounds_toArray, List.set_cons_zero, List.set_cons_succ]
  (refine' take_in 26 rfl (by kernel_rfl) (by kernel_rfl) (by kernel_rfl) (fun _ _ _ h => h) (by rfl) (by assumption) ?_ ?_; rotate_left; focus (intro w hSw; (try dsimp only at hSw); go_simp; try with_reducible rfl)); try simp only [Act.put, List.setIfInBounds_toArray, List.set_cons_zero, List.set_cons_succ]
  (refine' take_in 27 rfl (by kernel_rfl) (by kernel_rfl) (by kernel_rfl) (fun _ _ _ h => h) (by rfl) (by assumption) ?_ ?_; rotate_left; focus (intro w hSw; (try dsimp only at hSw); go_simp; try with_reducible rfl)); try simp only [Act.put, List.setIfInBounds_toArray, List.set_cons_zero, List.set_cons_succ]
  (refine' take_in 28 rfl (by kernel_rfl) (by kernel_rfl) (by kernel_rfl) (fun _ _ _ h => h) (by rfl) (by assumption) ?_ ?_; rotate_left; focus (intro w hSw; (try dsimp only at hSw); go_simp; try with_reducible rfl)); try simp only [Act.put, List.setIfInBounds_toArray, List.set_cons_zero, List.set_cons_succ]
  (refine' take_in 29 rfl (by kernel_rfl) (by kernel_rfl) (by kernel_rfl) (fun _ _ _ h => h) (by rfl) (by assumption) ?_ ?_; rotate_left; focus (intro w hSw; (try dsimp only at hSw); go_simp; try with_reducible rfl)); try simp only [Act.put, List.setIfInBounds_toArray, List.set_cons_zero, List.set_cons_succ]
  (refine' take_in 30 rfl (by kernel_rfl) (by kernel_rfl) (by kernel_rfl) (fun _ _ _ h => h) (by rfl) (by assumption) ?_ ?_; rotate_left; focus (intro w hSw; (try dsimp only at hSw); go_simp; try with_reducible rfl)); try simp only [Act.put, List.setIfInBounds_toArray, List.set_cons_zero, List.set_cons_succ]
  (refine' take_in 31 rfl (by kernel_rfl) (by kernel_rfl) (by kernel_rfl) (fun _ _ _ h => h) (by rfl) (by assumption) ?_ ?_; rotate_left; focus (intro w hSw; (try dsimp only at hSw); go_simp; try with_reducible rfl)); try simp only [Act.put, List.setIfInBounds_toArray, List.set_cons_zero, List.set_cons_succ]
  (refine' take_in 32 rfl (by kernel_rfl) (by kernel_rfl) (by kernel_rfl) (fun _ _ _ h => h) (by rfl) (by assumption) ?_ ?_; rotate_left; focus (intro w hSw; (try dsimp only at hSw); go_simp; try with_reducible rfl)); try simp only [Act.put, List.setIfInBounds_toArray, List.set_cons_zero, List.set_cons_succ]
  (refine' take_in 33 rfl (by kernel_rfl) (by kernel_rfl) (by kernel_rfl) (fun _ _ _ h => h) (by rfl) (by assumption) ?_ ?_; rotate_left; focus (intro w hSw; (try dsimp only at hSw); go_simp; try with_reducible rfl)); try simp only [Act.put, List.setIfInBounds_toArray, List.set_cons_zero, List.set_cons_succ]
  (refine' take_in 34 rfl (by kernel_rfl) (by kernel_rfl) (by kernel_rfl) (fun _ _ _ h => h) (by rfl) (by assumption) ?_ ?_; rotate_left; focus (intro w hSw; (try dsimp only at hSw); go_simp; try with_reducible rfl)); try simp only [Act.put, List.setIfInBounds_toArray, List.set_cons_zero, List.set_cons_succ]
  (refine' take_in 35 rfl (by kernel_rfl) (by kernel_rfl) (by kernel_rfl) (fun _ _ _ h => h) (by rfl) (by assumption) ?_ ?_; rotate_left; focus (intro w hSw; (try dsimp only at hSw); go_simp; try with_reducible rfl)); try simp only [Act.put, List.setIfInBounds_toArray, List.set_cons_zero, List.set_cons_succ]
  (refine' take_in 36 rfl (by kernel_rfl) (by kernel_rfl) (by kernel_rfl) (fun _ _ _ h => h) (by rfl) (by assumption) ?_ ?_; rotate_left; focus (intro w hSw; (try dsimp only at hSw); go_simp; try with_reducible rfl)); try simp only [Act.put, List.setIfInBounds_toArray, List.set_cons_zero, List.set_cons_succ]
  (refine' take_in 37 rfl (by kernel_rfl) (by kernel_rfl) (by kernel_rfl) (fun _ _ _ h => h) (by rfl) (by assumption) ?_ ?_; rotate_left; focus (intro w hSw; (try dsimp only at hSw); go_simp; try with_reducible rfl)); try simp only [Act.put, List.setIfInBounds_toArray, List.set_cons_zero, List.set_cons_succ]
  (refine' take_in 38 rfl (by kernel_rfl) (by kernel_rfl) (by kernel_rfl) (fun _ _ _ h => h) (by rfl) (by assumption) ?_ ?_; rotate_left; focus (intro w hSw; (try dsimp only at hSw); go_simp; try with_reducible rfl)); try simp only [Act.put, List.setIfInBounds_toArray, List.set_cons_zero, List.set_cons_succ]
  refine' next_in 2 rfl (by kernel_rfl) (by rfl) (fun K hK => ?_)
  (go_simp; go_at_call 85; refine (C1 _).mono ?_; rintro e w1 ⟨rfl, rfl⟩; try go_simp)
  refine hK.out _ _ (by simp [go_sem, World.cell?_alloc_past]) (fun hHeld => ?_); clear hK K; try simp only [Act.put, List.setIfInBounds_toArray, List.set_cons_zero, List.set_cons_succ]
  (refine' take_in 3 rfl (by kernel_rfl) (by kernel_rfl) (by kernel_rfl) (fun _ _ _ h => h) (by rfl) (by assumption) ?_ ?_; rotate_left; focus (intro w hSw; (try dsimp only at hSw); go_simp; try with_reducible rfl)); try simp only [Act.put, List.setIfInBounds_toArray, List.set_cons_zero, List.set_cons_succ]
  (refine' take_in 4 rfl (by kernel_rfl) (by kernel_rfl) (by kernel_rfl) (fun _ _ _ h => h) (by rfl) (by assumption) ?_ ?_; rotate_left; focus (intro w hSw; (try dsimp only at hSw); go_simp; try with_reducible rfl)); try simp only [Act.put, List.setIfInBounds_toArray, List.set_cons_zero, List.set_cons_succ]
  (refine' take_in 5 rfl (by kernel_rfl) (by kernel_rfl) (by kernel_rfl) (fun _ _ _ h => h) (by rfl) (by assumption) ?_ ?_; rotate_left; focus (intro w hSw; (try dsimp only at hSw); go_simp; try with_reducible rfl)); try simp only [Act.put, List.setIfInBounds_toArray, List.set_cons_zero, List.set_cons_succ]
  refine' next_in 6 rfl (by kernel_rfl) (by rfl) (fun K hK => ?_)
  (go_simp; go_at_call 86; refine (C2 _).mono ?_; rintro e w1 ⟨rfl, rfl⟩; try go_simp)
  refine hK.out _ _ (by simp [go_sem, World.cell?_alloc_past]) (fun hHeld => ?_); clear hK K; try simp only [Act.put, List.setIfInBounds_toArray, List.set_cons_zero, List.set_cons_succ]
  (refine' take_in 7 rfl (by kernel_rfl) (by kernel_rfl) (by kernel_rfl) (fun _ _ _ h => h) (by rfl) (by assumption) ?_ ?_; rotate_left; focus (intro w hSw; (try dsimp only at hSw); go_simp; try with_reducible rfl)); try simp only [Act.put, List.setIfInBounds_toArray, List.set_cons_zero, List.set_cons_succ]
  (refine' take_in 8 rfl (by kernel_rfl) (by kernel_rfl) (by kernel_rfl) (fun _ _ _ h => h) (by rfl) (by assumption) ?_ ?_; rotate_left; focus (intro w hSw; (try dsimp only at hSw); go_simp; try with_reducible rfl)); try simp only [Act.put, List.setIfInBounds_toArray, List.set_cons_zero, List.set_cons_succ]
  (refine' take_in 9 rfl (by kernel_rfl) (by kernel_rfl) (by kernel_rfl) (fun _ _ _ h => h) (by rfl) (by assumption) ?_ ?_; rotate_left; focus (intro w hSw; (try dsimp only at hSw); go_simp; try with_reducible rfl)); try simp only [Act.put, List.setIfInBounds_toArray, List.set_cons_zero, List.set_cons_succ]
  (refine' take_in 10 rfl (by kernel_rfl) (by kernel_rfl) (by kernel_rfl) (fun _ _ _ h => h) (by rfl) (by assumption) ?_ ?_; rotate_left; focus (intro w hSw; (try dsimp only at hSw); go_simp; try with_reducible rfl)); try simp only [Act.put, List.setIfInBounds_toArray, List.set_cons_zero, List.set_cons_succ]
  refine' next_in 11 rfl (by kernel_rfl) (by rfl) (fun K hK => ?_)
  (go_simp; go_at_call 87; refine (C3 _).mono ?_; rintro e w1 ⟨rfl, rfl⟩; try go_simp)
  refine hK.out _ _ (by simp [go_sem, World.cell?_alloc_past]) (fun hHeld => ?_); clear hK K; try simp only [Act.put, List.setIfInBounds_toArray, List.set_cons_zero, List.set_cons_succ]
  (refine' take_in 12 rfl (by kernel_rfl) (by kernel_rfl) (by kernel_rfl) (fun _ _ _ h => h) (by rfl) (by assumption) ?_ ?_; rotate_left; focus (intro w hSw; (try dsimp only at hSw); go_simp; try with_reducible rfl)); try simp only [Act.put, List.setIfInBounds_toArray, List.set_cons_zero, List.set_cons_succ]
  (refine' take_in 13 rfl (by kernel_rfl) (by kernel_rfl) (by kernel_rfl) (fun _ _ _ h => h) (by rfl) (by assumption) ?_ ?_; rotate_left; focus (intro w hSw; (try dsimp only at hSw); go_simp; try with_reducible rfl)); try simp only [Act.put, List.setIfInBounds_toArray, List.set_cons_zero, List.set_cons_succ]
  (refine' take_in 14 rfl (by kernel_rfl) (by kernel_rfl) (by kernel_rfl) (fun _ _ _ h => h) (by rfl) (by assumption) ?_ ?_; rotate_left; focus (intro w hSw; (try dsimp only at hSw); go_simp; try with_reducible rfl)); try simp only [Act.put, List.setIfInBounds_toArray, List.set_cons_zero, List.set_cons_succ]
  (refine' take_in 15 rfl (by kernel_rfl) (by kernel_rfl) (by kernel_rfl) (fun _ _ _ h => h) (by rfl) (by assumption) ?_ ?_; rotate_left; focus (intro w hSw; (try dsimp only at hSw); go_simp; try with_reducible rfl)); try simp only [Act.put, List.setIfInBounds_toArray, List.set_cons_zero, List.set_cons_succ]
  refine' next_in 16 rfl (by kernel_rfl) (by rfl) (fun K hK => ?_)
  (go_simp; go_at_call 87; refine (C4 _).mono ?_; rintro e w1 ⟨rfl, rfl⟩; try go_simp)
  refine hK.out _ _ (by simp [go_sem, World.cell?_alloc_past]) (fun hHeld => ?_); clear hK K; try simp only [Act.put, List.setIfInBounds_toArray, List.set_cons_zero, List.set_cons_succ]
  (refine' take_in 17 rfl (by kernel_rfl) (by kernel_rfl) (by kernel_rfl) (fun _ _ _ h => h) (by rfl) (by assumption) ?_ ?_; rotate_left; focus (intro w hSw; (try dsimp only at hSw); go_simp; try with_reducible rfl)); try simp only [Act.put, List.setIfInBounds_toArray, List.set_cons_zero, List.set_cons_succ]
  (refine' take_in 18 rfl (by kernel_rfl) (by kernel_rfl) (by kernel_rfl) (fun _ _ _ h => h) (by rfl) (by assumption) ?_ ?_; rotate_left; focus (intro w hSw; (try dsimp only at hSw); go_simp; try with_reducible rfl)); try simp only [Act.put, List.setIfInBounds_toArray, List.set_cons_zero, List.set_cons_succ]
  refine' next_in 39 rfl (by kernel_rfl) (by rfl) (fun K hK => ?_)
  go_simp
  refine hK.out _ _ (by simp [go_sem, World.cell?_alloc_past]) (fun hHeld => ?_); clear hK K; try simp only [Act.put, List.setIfInBounds_toArray, List.set_cons_zero, List.set_cons_succ]
  refine' next_in 40 rfl (by kernel_rfl) (by rfl) (fun K hK => ?_)
  (go_simp; go_at_call 84; (with_reducible refine (tfirst_any (some ⟨w.heap.size + 1, 0, none⟩) 4 4 [(false, 3), (P == V, 2), (!((P == -1) == (F == 0)), 11), (decide (S < F), 9)] _ (sl_rules _ 123 _ (by simp) _ _ _ _ _ _ _ _)).mono ?_); rintro e w2 ⟨rfl, hx2⟩)
  have d0 : w2.cell? ⟨w.heap.size, 0, none⟩ = some (.int .i64 V) := hx2.has (by simp [go_sem, World.cell?_alloc_past])
  have d1 : w2.cell? ⟨w.heap.size, 1, none⟩ = some (.int .i64 S) := hx2.has (by simp [go_sem, World.cell?_alloc_past])
  have d2 : w2.cell? ⟨w.heap.size, 2, none⟩ = some (.int .i64 P) := hx2.has (by simp [go_sem, World.cell?_alloc_past])
  have d3 : w2.cell? ⟨w.heap.size, 3, none⟩ = some (.int .i64 F) := hx2.has (by simp [go_sem, World.cell?_alloc_past])
  try go_simp
  refine hK.out _ _ (⟨d0, d1, d2, d3⟩) (fun hHeld => ?_); clear hK K; try simp only [Act.put, List.setIfInBounds_toArray, List.set_cons_zero, List.set_cons_succ]
  (refine' take_in 41 rfl (by kernel_rfl) (by kernel_rfl) (by kernel_rfl) (fun _ _ _ h => h) (by rfl) (by assumption) ?_ ?_; rotate_left; focus (intro w hSw; (try dsimp only at hSw); go_simp; try with_reducible rfl)); try simp only [Act.put, List.setIfInBounds_toArray, List.set_cons_zero, List.set_cons_succ]
  refine wpAnyH_done (by kernel_rfl) ?_ _
  go_wp2
  go_ret
  exact ⟨rfl, (by repeat (first | assumption | exact Ext.refl _ | refine Ext.drew ?_ | refine Ext.drewN ?_ _ | refine Ext.alloc ?_ _ | refine Ext.setCell ?_ (by first | omega | (simp; done) | (simp; omega)) _ | refine Ext.trans ?_ (by assumption)))⟩
theorem tCheck_any (V S P F : Int) (w : World) :
    Calls Tryz.prog 59 #[.agg #[.int .i64 V, .int .i64 S, .int .i64 P, .int .i64 F]] w fun r w' => r = .returned (.int .i64 (chkS V S P F)) ∧ Ext w w' := by
  have C1 := fun w => tnoone_any V w
  have C2 := fun w => tnowhen_any S w
  have C3 := fun w => tout_any P (-1) 31 w
  have C4 := fun w => tout_any F 0 4294967296 w
  unfold chkS
  generalize outB V 0 31 = b1 at *
  generalize outB S 1 4294967296 = b2 at *
  generalize outB P (-1) 31 = b3 at *
  generalize outB F 0 4294967296 = b4 at *
  cases b1
  · cases b2
    · cases b3
      · cases b4
        · exact tCheck_0 V S P F w C1 C2 C3 C4
        · exact tCheck_4 V S P F w C1 C2 C3 C4
      · exact tCheck_3 V S P F w C1 C2 C3
    · exact tCheck_2 V S P F w C1 C2
  · exact tCheck_1 V S P F w C1
end
end Go.Proofs.YtnbeejgppooamaaGreat
