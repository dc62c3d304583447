/- What the law HopBack rests on, part 1 of 3: Ext, Mem, Put, Mem2, Open, Writer, Number, Has, Reader, CodecM, RefR, RefW, BytesM, Held, Held2, Rec, AppB, ListHop, RefN, Low, WF, Cod, RdK, Hop1, Hop2, Hop3. Conditions stand in each lemma. -/
import Derived.WalkKit
import Derived.Deep.QuietTactic
import Derived.Deep.Draws
import Derived.Laws.OwnMore
import Derived.Laws.AppendOwn
import Derived.OwnWalk
import Derived.RangeFuncBox
import Derived.RangeFuncLeaves
import Derived.Shelf.Abstract
import Derived.OwnWalkIn
import Derived.TacticsInMore
import Derived.LoopNIn
import Derived.LoopIn
import Derived.Maps.AppendAt
import Derived.Test.YtjdpgapmdmpjjaaRows
import Derived.Lib.Hide
import Derived.Deep.Onto
import Derived.ProofKit
import Derived.ChangeOld
import Derived.OpenShut
import Derived.Deep.Slices
import Derived.BigQuiet
import Derived.IntWalk
import Derived.Lib.SliceRun
import Derived.Deep.LoopGhost
import Derived.WalkSpells
import Derived.WalkLawsBesides
import Derived.Laws.BytesArg
import Derived.Deep.RegionHeld3
import Derived.Lib.SmallJoins
import Derived.ArgAppend
import Derived.Laws.StructEq
import Derived.WalkMore
import Derived.Maps.OwnSet
import Derived.WideKeyEntry
import Derived.DeepKeys5
set_option linter.unusedVariables false
set_option linter.unusedSimpArgs false
namespace Go.Proofs.Ytjdpgapmdmpjjaa
section
open Go.RowKit
/-- what a call that writes nothing that was there leaves: new blocks and draws alone -/
def Ext (w w' : World) : Prop := Below w.heap.size w w'
section
variable {a b c w w' : World}
theorem Ext.refl (w : World) : Ext w w := Below.refl _ _
theorem Ext.size (h : Ext a b) : a.heap.size ≤ b.heap.size := Below.size h
theorem Ext.trans (h : Ext a b) (k : Ext b c) : Ext a c := Below.trans h (Below.mono k (Ext.size h))
theorem Ext.drew (h : Ext a w) : Ext a w.drew := Below.drew h
theorem below_drewN {B : Nat} (h : Below B a w) (n : Nat) : Below B a (w.drewN n) := ⟨h.os, h.tape, h.output, h.size, h.block⟩
theorem Ext.drewN (h : Ext a w) (n : Nat) : Ext a (w.drewN n) := below_drewN h n
theorem Ext.alloc (h : Ext a w) (o : Obj) : Ext a (w.alloc o) := Below.alloc h (Ext.size h) o
theorem Ext.setCell (h : Ext a w) {p : Addr} (hp : a.heap.size ≤ p.block) (u : Value) : Ext a (w.setCell p u) := Below.setCell h hp u
theorem Ext.grown (h : Ext a w) {row : Option Nat} (hg : w.grownBy w' row) (hr : ∀ k, row = some k → a.heap.size ≤ k) : Ext a w' := Below.grown h hg (Ext.size h) hr
theorem Ext.cells (h : Ext a b) : (∀ k o, k < a.heap.size → b.cell? ⟨k, o, none⟩ = a.cell? ⟨k, o, none⟩) ∧ (∀ k o, k < a.heap.size → b.frozen? ⟨k, o, none⟩ = a.frozen? ⟨k, o, none⟩) :=
  ⟨fun k o hk => Below.cell h (p := ⟨k, o, none⟩) hk, fun k o hk => Below.frozen h (p := ⟨k, o, none⟩) hk⟩
theorem Ext.cell (h : Ext a b) {p : Addr} (hp : p.block < a.heap.size) : b.cell? p = a.cell? p := Below.cell h hp
theorem Ext.toGrown (h : Ext a b) : Below a.heap.size a b := h
end

/-- a contract in which the callee only draws -/
def Drw (w w' : World) : Prop := ∃ n, w' = w.drewN n
theorem Drw.ext {w w' : World} (h : Drw w w') : Ext w w' := by
  obtain ⟨n, rfl⟩ := h
  exact (Ext.refl w).drewN n

theorem Drw.refl (w : World) : Drw w w := ⟨0, rfl⟩
theorem Drw.drewN {a w : World} (h : Drw a w) (n : Nat) : Drw a (w.drewN n) := by
  obtain ⟨m, rfl⟩ := h
  exact ⟨m + n, World.drewN_drewN _ _ _⟩
theorem Drw.trans {a b c : World} (h : Drw a b) (k : Drw b c) : Drw a c := by
  obtain ⟨n, rfl⟩ := k
  exact h.drewN n
theorem num_eq {k : IntKind} {a b : Int} (h : a = b) : Value.int k a = .int k b := by rw [h]
theorem ret_int {k : IntKind} {a b : Int} (h : a = b) : Ending.returned (.int k a) = .returned (.int k b) := by rw [h]
theorem ret_bool {a b : Bool} (h : a = b) : Ending.returned (.bool a) = .returned (.bool b) := by rw [h]
theorem ret_two {k l : IntKind} {a b c d : Int} (h : a = c) (h' : b = d) : Ending.returned (.tuple #[.int k a, .int l b]) = .returned (.tuple #[.int k c, .int l d]) := by rw [h, h']
end
section
open Go.RowKit
theorem addr_add (b o j : Nat) : (⟨b, o, none⟩ : Addr).add j = ⟨b, o + j, none⟩ := by unfold Addr.add; split <;> simp_all
/-- the slice value v, of n elements of sz cells each, reads as the cells xs -/
def Sl (w : World) (sz : Nat) (A : Option Addr) (n c : Nat) (xs : List Value) : Prop :=
  xs.length = n * sz ∧ n ≤ c ∧ c ≤ maxLen ∧ (0 < n → ∃ b o, A = some ⟨b, o, none⟩ ∧ b < w.heap.size ∧ ∀ j u, xs[j]? = some u → w.cell? ⟨b, o + j, none⟩ = some u)
section
variable {w w' : World} {sz n c : Nat} {A : Option Addr} {xs : List Value}
theorem Sl.nil (w : World) (sz : Nat) : Sl w sz none 0 0 [] := ⟨by simp, Nat.le_refl _, by simp [maxLen], fun h => absurd h (by omega)⟩
theorem Sl.len (h : Sl w sz A n c xs) : xs.length = n * sz := h.1
theorem Sl.small (h : Sl w sz A n c xs) : n ≤ 9223372036854775807 := by have h1 := h.2.1; have h2 := h.2.2.1; simp [maxLen] at h2; omega
theorem Sl.at_ (h : Sl w sz A n c xs) (hn : 0 < n) : ∃ b o, A = some ⟨b, o, none⟩ ∧ b < w.heap.size ∧ ∀ j u, xs[j]? = some u → w.cell? ⟨b, o + j, none⟩ = some u := h.2.2.2 hn
theorem Sl.keep (h : Sl w sz A n c xs) (hs : w.heap.size ≤ w'.heap.size) (hk : ∀ b o, b < w.heap.size → w'.cell? ⟨b, o, none⟩ = w.cell? ⟨b, o, none⟩) : Sl w' sz A n c xs :=
  ⟨h.1, h.2.1, h.2.2.1, fun hn => by
    obtain ⟨b, o, e, hb, hc⟩ := h.2.2.2 hn
    exact ⟨b, o, e, by omega, fun j u hu => (hk _ _ hb).trans (hc j u hu)⟩⟩
theorem Sl.ext (h : Sl w sz A n c xs) (hx : Ext w w') : Sl w' sz A n c xs := h.keep hx.size fun b o hb => hx.cells.1 b o hb
theorem Sl.take (h : Sl w sz A n c xs) {m : Nat} (hm : m ≤ n) : Sl w sz A m c (xs.take (m * sz)) := by
  refine ⟨?_, by have := h.2.1; omega, h.2.2.1, fun hn => ?_⟩
  · rw [List.length_take, h.1]
    exact Nat.min_eq_left (Nat.mul_le_mul_right _ hm)
  · obtain ⟨b, o, e, hb, hc⟩ := h.2.2.2 (by omega)
    refine ⟨b, o, e, hb, fun j u hu => hc j u ?_⟩
    rw [List.getElem?_take] at hu
    split at hu
    · exact hu
    · cases hu
theorem Sl.drop (h : Sl w sz A n c xs) {k : Nat} (hk : k ≤ n) : Sl w sz (if c = k then A else A.map (·.add (k * sz))) (n - k) (c - k) (xs.drop (k * sz)) := by
  refine ⟨?_, by have := h.2.1; omega, by have := h.2.2.1; omega, fun hn => ?_⟩
  · rw [List.length_drop, h.1, Nat.sub_mul]
  · obtain ⟨b, o, rfl, hb, hc⟩ := h.2.2.2 (by omega)
    have := h.2.1
    rw [if_neg (by omega)]
    refine ⟨b, o + k * sz, by simp [addr_add], hb, fun j u hu => ?_⟩
    rw [List.getElem?_drop] at hu
    rw [Nat.add_assoc]
    exact hc _ u hu
theorem Sl.own {base : Nat} {e : TypeId} (h : w.ownsRow base e sz (.slice A n c) n xs) : Sl w sz A n c xs := by
  rcases h.2 with ⟨h', rfl⟩ | ⟨g, cap, cur, h', _, hg, hnc, hcm, hcs, htake⟩
  · injection h' with h1 h2 h3
    subst h1; subst h3
    exact ⟨h.1, Nat.le_refl _, by simp [maxLen], fun hn => absurd hn (by omega)⟩
  · injection h' with h1 h2 h3
    subst h1; subst h3
    refine ⟨h.1, hnc, hcm, fun hn => ⟨g, 0, rfl, (Array.getElem?_eq_some_iff.1 hg).1, fun j u hu => ?_⟩⟩
    rw [Nat.zero_add, cell_of_row w g j cur e (0, 0) hg]
    rw [← htake, List.getElem?_take] at hu
    split at hu
    · simpa using hu
    · cases hu
theorem Sl.drop0 (h : Sl w sz A 0 c xs) : xs = [] := List.eq_nil_of_length_eq_zero (by simpa using h.1)
end
/-- an owned slice, its parts -/
theorem own_parts {w : World} {base : Nat} {e : TypeId} {sz n : Nat} {v : Value} {xs : List Value} (h : w.ownsRow base e sz v n xs) : ∃ A c, v = .slice A n c ∧ Sl w sz A n c xs := by
  rcases h.2 with ⟨rfl, rfl⟩ | ⟨g, cap, cur, rfl, rest⟩
  · exact ⟨_, _, rfl, Sl.own h⟩
  · exact ⟨_, _, rfl, Sl.own h⟩

/-- integers of one kind, as cells -/
def iv (k : IntKind) (l : List Int) : List Value := l.map (Value.int k)
theorem iv_len (k : IntKind) (l : List Int) : (iv k l).length = l.length := List.length_map _
theorem iv_get (k : IntKind) (l : List Int) (j : Nat) (h : j < l.length) : (iv k l)[j]? = some (.int k (l.getD j 0)) := by
  unfold iv
  rw [List.getElem?_map, List.getD_eq_getElem?_getD, List.getElem?_eq_getElem h]
  rfl
/-- the cell of an element -/
theorem Sl.cell {w : World} {A : Option Addr} {n c : Nat} {k : IntKind} {l : List Int} (h : Sl w 1 A n c (iv k l)) {j : Nat} (hj : j < n) :
    ∃ b o, A = some ⟨b, o, none⟩ ∧ b < w.heap.size ∧ ∀ j, j < n → w.cell? ⟨b, o + j, none⟩ = some (.int k (l.getD j 0)) := by
  obtain ⟨b, o, e, hb, hc⟩ := h.at_ (by omega)
  have hl := h.len
  rw [iv_len] at hl
  exact ⟨b, o, e, hb, fun j hj => hc j _ (iv_get k l j (by omega))⟩
theorem Sl.ilen {w : World} {A : Option Addr} {n c : Nat} {k : IntKind} {l : List Int} (h : Sl w 1 A n c (iv k l)) : l.length = n := by
  have := h.len; rw [iv_len] at this; omega
/-- append of one element that the operation itself has just laid: the new slice is owned, nothing below 'base' has turned -/
theorem wpList_append_new {P : Program} (w : World) {ops : Array Oper} {rest : List Oper} {o : Oper} {a : Act} {Q : Exit → Act → World → Prop} (hgd : o.guard = none) (s x : Operand) (t : TypeId)
    (ho : o.op = .call { callee := .builtin .append, args := #[s, x], argTypes := #[t, t] })
    (base : Nat) (e : TypeId) (i : TypeInfo) (z : Value) (size bytes : Nat) (ht : P.underlying t = some (.slice e)) (hi : P.info? e = some i) (hz : i.zero = some z)
    (hsize : i.size = size) (hby : i.bytes = bytes) (hzs : z.cells.size = size) (hsz : 0 < size)
    (v : Value) (n : Nat) (xs : List Value) (hs : a.eval s = v) (hown : w.ownsRow base e size v n xs) (news : Array Value) (c : Nat)
    (hx : a.eval x = .slice (some ⟨w.heap.size, 0, none⟩) 1 c) (hl : news.size = size) (h1 : ∀ u ∈ news.toList, u.oneCell' = true)
    (hn : n < 1099511627776) (hb128 : bytes ≤ 127) (hbase : base ≤ w.heap.size)
    (h : ∀ v' w', w'.ownsRow base e size v' (n + 1) (xs ++ news.toList) → Below base w w' → wpList P ops Q rest (a.put o.dst v') w') :
    wpList P ops Q (o :: rest) a (w.alloc (.cells news e)) := by
  have hcells : ∀ j u, news.toList[j]? = some u → (w.alloc (.cells news e)).cell? ((⟨w.heap.size, 0, none⟩ : Addr).add j) = some u := by
    intro j u hu
    rw [addr_add, Nat.zero_add, cell_of_row _ _ j news e (0, 0) (heap_alloc_new w _)]
    simpa using hu
  have hby2 : (n + 1) * bytes ≤ 140737488355328 := by
    have : (n + 1) * bytes ≤ 1099511627776 * 127 := Nat.mul_le_mul (by omega) hb128
    omega
  refine wpList_append_own (w.alloc (.cells news e)) hgd s x t ho base e i z size bytes ht hi hz hsize hby hzs hsz v n xs hs (hown.alloc _) ⟨w.heap.size, 0, none⟩ 1 c news.toList hx (by simpa using hl) hcells h1
    (by simp [maxLen]; omega) hby2 (by simp; omega) ?_
  intro v' w' h2 h3 h4
  refine h v' w' h2 ?_
  exact ((Below.refl base w).alloc hbase _).grown h3 (by simp; omega) (fun k hk => (hown.lt k hk).1)
theorem Ext.below {a w w' : World} (h : Ext a w) (k : Below a.heap.size w w') : Ext a w' := Below.trans h k
end
section
open Go.RowKit Go.Shelf
attribute [local go_sem] Oper.semAt_some

/-- a number's bytes -/
def putL (n : Nat) : List Nat := if h : n < 128 then [n] else (n % 128 + 128) :: putL (n / 128)
termination_by n
decreasing_by omega
theorem putL_lt {n : Nat} (h : n < 128) : putL n = [n] := by rw [putL, dif_pos h]
theorem putL_ge {n : Nat} (h : ¬ n < 128) : putL n = (n % 128 + 128) :: putL (n / 128) := by rw [putL, dif_neg h]
theorem putL_len (n : Nat) : ∀ k, n < 2 ^ (7 * (k + 1)) → (putL n).length ≤ k + 1 := by
  intro k
  induction k generalizing n with
  | zero => intro h; rw [putL_lt (by simpa using h)]; simp
  | succ k ih =>
    intro h
    by_cases h1 : n < 128
    · rw [putL_lt h1]; simp
    · rw [putL_ge h1, List.length_cons]
      have : n / 128 < 2 ^ (7 * (k + 1)) := by
        rw [Nat.div_lt_iff_lt_mul (by decide)]
        have e : 2 ^ (7 * (k + 1 + 1)) = 2 ^ (7 * (k + 1)) * 128 := by
          rw [show 7 * (k + 1 + 1) = 7 * (k + 1) + 7 from by omega, Nat.pow_add]
        omega
      have := ih (n / 128) this
      omega

/-- how a round's body is left: off its end -/
def cellPost (n0 : Nat) (J : World → Prop) (W : World) : Exit → Act → World → Prop
  | .normal, _, W' => KeepsOthers W W' ∧ Below n0 W W' ∧ J W'
  | _, _, _ => False
/-- A range over a function that keeps a variable of its own in a cell (block nb, captured), and whose rounds never leave. The iterator's contract is asked for what abides a store into that cell. -/
theorem rangeFunc_cell {α : Type} {F : Fence} {n : Nat} {P : Program} {g : Operand} {ps : Array Tmp} {assign body : Code} {Q : Exit → Act → World → Prop} {a : Act} {w : World}
    (hro : F.round = none) (h1 : 1 ≤ n) {gf : Nat} {lb : Array Value} (hg : a.eval g = .func (.func gf) #[] lb) (hFg : F.fn gf) (eg : ∀ args w, (callFunc gf args).run P w = .ok (.enter gf args) w)
    {enc : α → Value} {xs : List α} {nb : Nat} (hnb : nb < w.heap.size) {n0 : Nat} (hn0 : n0 ≤ w.heap.size)
    (hseq : ∀ (l : Nat) (J : List α → World → Prop) (W : World), Below w.heap.size w W → (∀ s A v, J s A → J s (A.setCell ⟨nb, 0, none⟩ v)) →
      (∀ pre x A, J pre A → pre ++ [x] <+: xs → YieldAt F (n - 1 - 1) P l #[enc x] A fun e A' => e = .returned (.bool true) ∧ J (pre ++ [x]) A' ∧ Below n0 A A') →
      J [] W → CallsIn F (n - 1) P gf (#[.func (.yield l) #[] #[]] ++ lb) W fun e W' => (∃ v, e = .returned v) ∧ J xs W')
    (hps : ps.size = 1) (I : List α → World → Prop) (hIset : ∀ s A v, I s A → I s (A.setCell ⟨nb, 0, none⟩ v))
    (hIput : ∀ s A l o o', I s A → w.heap.size ≤ l → A.heap[l]? = some o → o.isCells = false → I s (A.putObj l o')) (hIalloc : ∀ s A o, I s A → I s (A.alloc o)) (h0 : I [] w) (a₁ : α → Act)
    (hassign : ∀ (l : Nat) (x : α) (W : World) (K : Act → World → Prop), K (a₁ x) W →
      assign.wpIn (F.inRound l) (n - 1 - 1) P (Exit.then K (fun _ _ _ => False)) { tmps := (ps.zip #[enc x]).foldl (fun t (p, v) => t.setIfInBounds p v) a.tmps, defers := [] } W)
    (hbody : ∀ (l : Nat) (pre : List α) (x : α) (W : World), I pre W → pre ++ [x] <+: xs → body.wpIn (F.inRound l) (n - 1 - 1) P
      (cellPost n0 (I (pre ++ [x])) W) (a₁ x) W)
    (hdone : ∀ (D : Nat) (W : World), w.heap.size ≤ D → I xs W → W.heap[D]? = some (.deferred (some [])) → Q .normal { a with defers := { target := .collected D, args := #[] } :: a.defers } W) :
    (Code.rangeFunc g ps assign body).wpIn F n P Q a w := by
  refine wpIn_rangeFunc ?_
  intro fn hfn
  rw [hro]
  obtain ⟨rec, hrec⟩ : ∃ rec : LoopState → Option Code → Loop, rec = fun st pe => { state := st, pending := pe, fn, tmps := a.tmps, params := ps, assign, body, defers := w.heap.size } := ⟨_, rfl⟩
  obtain ⟨W1, hW1⟩ : ∃ W1, (w.alloc (.deferred (some []))).alloc (.loop (rec .ready none)) = W1 := ⟨_, rfl⟩
  have hL1 : W1.heap[w.heap.size + 1]? = some (.loop (rec .ready none)) := by
    rw [← hW1]; have := World.alloc_heap_new (w.alloc (.deferred (some []))) (.loop (rec .ready none)); rwa [World.size_alloc] at this
  have hK1 : W1.heap[w.heap.size]? = some (.deferred (some [])) := by
    rw [← hW1]; exact (Below.heap_alloc _ _ _ (by simp)).trans (World.alloc_heap_new w _)
  have hI1 : I [] W1 := by rw [← hW1]; exact hIalloc _ _ _ (hIalloc _ _ _ h0)
  have hb1 : Below w.heap.size w W1 := by
    rw [← hW1]; exact ((Below.refl _ w).alloc (Nat.le_refl _) _).alloc (by simp) _
  have hother : ∀ (A : World) (v : Value) (k : Nat), w.heap.size ≤ k → (A.setCell ⟨nb, 0, none⟩ v).heap[k]? = A.heap[k]? := fun A v k hk => Below.heap_setCell A ⟨nb, 0, none⟩ v k (by simp; omega)
  refine ⟨w.heap.size + 1, [{ target := .collected w.heap.size, args := #[] }], W1, { target := .fn (.func gf) lb, args := #[.func (.yield (w.heap.size + 1)) #[] #[]] }, W1, gf,
    #[.func (.yield (w.heap.size + 1)) #[] #[]] ++ lb, W1, ?_, ?_, ?_, ?_, fun _ => h1, ?_⟩
  · rw [← hW1, hrec]; exact run_enterLoop_outer _ _ _ _ _
  · simp only [resolve, hg]
    simp [go_sem]
  · intro f' hf'; simp [Target.leads] at hf'; subst hf'; exact hFg
  · simp [invoke, go_sem, eg]
  · refine (hseq (w.heap.size + 1)
      (fun pre W => I pre W ∧ W.heap[w.heap.size + 1]? = some (.loop (rec .ready none)) ∧ W.heap[w.heap.size]? = some (.deferred (some [])))
      W1 hb1 (fun s A v hs => ⟨hIset s A v hs.1, (hother A v _ (by omega)).trans hs.2.1, (hother A v _ (Nat.le_refl _)).trans hs.2.2⟩) ?_ ⟨hI1, hL1, hK1⟩).mono ?_
    · rintro pre x W ⟨hi, hl, hk⟩ hlen
      have hlt : w.heap.size + 1 < W.heap.size := (Array.getElem?_eq_some_iff.1 hl).1
      have hy := run_yield (P := P) (args := #[enc x]) hl (by rw [hrec]; simp [hps])
      rw [hrec] at hy
      refine ⟨fn, _, assign, body, hy, roundIn_of_wpIn hfn (hassign _ x W _ ⟨_, run_beginRound hl (by rw [hrec]), ?_⟩)⟩
      have hl2 : (W.putObj (w.heap.size + 1) (.loop { rec .ready none with state := .busy })).heap[w.heap.size + 1]? = some (.loop { rec .ready none with state := .busy }) := World.putObj_heap_same hlt
      have hk2 : (W.putObj (w.heap.size + 1) (.loop { rec .ready none with state := .busy })).heap[w.heap.size]? = some (.deferred (some [])) := (World.putObj_heap_other (by omega)).trans hk
      have hb2 : Below n0 W (W.putObj (w.heap.size + 1) (.loop { rec .ready none with state := .busy })) := belowK_b (w := w) hn0 W _ _ _ (by omega) hl rfl rfl
      refine wpIn_mono (hbody _ pre x _ (hIput _ _ _ _ _ hi (by omega) hl rfl) hlen) ?_
      rintro e a3 W3 hp
      cases e with
      | normal =>
        obtain ⟨hk3, hb3, hi3⟩ := hp
        have hl3 := hk3.same _ _ hl2 rfl
        have hend := run_endRound (P := P) none hl3
        refine ⟨_, _, hend, rfl, ⟨hIput _ _ _ _ _ hi3 (by omega) hl3 rfl, ?_, ?_⟩, (hb2.trans hb3).trans (belowK_b (w := w) hn0 W3 _ _ _ (by omega) hl3 rfl rfl)⟩
        · rw [hrec] at hl3 ⊢
          exact World.putObj_heap_same (Array.getElem?_eq_some_iff.1 hl3).1
        · exact (World.putObj_heap_other (by omega)).trans (hk3.same _ _ hk2 rfl)
      | ret => exact hp.elim
      | exit id => exact hp.elim
      | goto t => exact hp.elim
      | panic ch => exact hp.elim
      | outgrown => exact hp.elim
    · rintro e W2 ⟨⟨v, rfl⟩, hi, hl, hk⟩
      exact ⟨none, _, by have := run_endLoop (P := P) hl (by rw [hrec]; simp); rw [hrec] at this; exact this, hdone _ _ (Nat.le_refl _) (hIput _ _ _ _ _ hi (by omega) hl rfl) ((World.putObj_heap_other (by omega)).trans hk)⟩
theorem or_all : ∀ r : Fin 256, bits .or .u8 (r.1 : Int) 128 = ((r.1 % 128 + 128 : Nat) : Int) := by decide +kernel
theorem or_byte (m : Nat) : bits .or .u8 ((m : Int) % 256) 128 = ((m % 128 + 128 : Nat) : Int) := by
  have h := or_all ⟨m % 256, Nat.mod_lt _ (by decide)⟩
  simp only at h
  rw [show ((m : Int) % 256) = ((m % 256 : Nat) : Int) from by omega, h]
  congr 1
  omega
theorem putL_head {N m : Nat} {pre : List Nat} (h : putL N = pre ++ putL m) (h1 : ¬ m < 128) : putL N = (pre ++ [m % 128 + 128]) ++ putL (m / 128) := by
  rw [h, putL_ge h1, List.append_assoc]; rfl
set_option maxRecDepth 100000 in
set_option maxHeartbeats 1000000 in
theorem cdigits1_in (F : Fence) (n : Nat) (hF : F.fn 146) (hro : F.round = none) (hn : 1 ≤ n) (l nb n0 : Nat) (J : List Nat → World → Prop) (W : World) (N : Nat) (hN : N < 18446744073709551616)
    (hJ : ∀ (s : List Nat) (A : World) (v : Value), J s A → J s (A.setCell ⟨nb, 0, none⟩ v))
    (hY : ∀ (pre : List Nat) (x : Nat) (A : World), J pre A → pre ++ [x] <+: putL N → YieldAt F (n - 1) Try.prog l #[.int .u8 (x : Int)] A fun e A' => e = .returned (.bool true) ∧ J (pre ++ [x]) A' ∧ Below n0 A A')
    (hnb : nb < n0) (hc : W.cell? ⟨nb, 0, none⟩ = some (.int .u64 (N : Int))) (hf : W.frozen? ⟨nb, 0, none⟩ = false) (h0 : J [] W) :
    CallsIn F n Try.prog 146 (#[.func (.yield l) #[] #[]] ++ #[.pointer (some ⟨nb, 0, none⟩)]) W fun e W' => (∃ v, e = .returned v) ∧ J (putL N) W' := by
  have HJ := Lib.hid hJ
  have HY := Lib.hid hY
  clear hJ hY
  refine callsIn_of_wp Try.func146 rfl hF ?_ hro
  simp only [Try.ntmps146, List.size_toArray, List.length_cons, List.length_nil, Nat.reduceAdd, Nat.reduceSub, Array.replicate_succ, Array.replicate_zero, List.push_toArray, List.append_toArray, List.nil_append, List.cons_append]
  gi_wp2
  gi_loopw [3] (fun _ wr => ∃ (pre : List Nat) (m : Nat), Hid (putL N = pre ++ putL m) ∧ m < 18446744073709551616 ∧ wr.cell? ⟨nb, 0, none⟩ = some (.int .u64 (m : Int)) ∧ wr.frozen? ⟨nb, 0, none⟩ = false ∧ J pre wr)
    (fun _ wr => match wr.cell? ⟨nb, 0, none⟩ with | some (.int _ m) => m.toNat | _ => 0)
  case atStart => exact ⟨[], N, Lib.hid rfl, hN, hc, hf, h0⟩
  case round =>
    obtain ⟨pre, m, hp, hm, hc, hf, hj⟩ := hrel
    by_cases h1 : m < 128
    · have h2 : ¬ (128 : Int) ≤ (m : Int) := by omega
      have h3 : pre ++ [m] = putL N := by rw [hp.out, putL_lt h1]
      obtain ⟨fn, tmps, assign, body, hy, hR⟩ := HY.out pre m wr hj (by rw [h3]; exact List.prefix_rfl)
      have HR := Lib.hid hR
      have H3 := Lib.hid h3
      clear hR h3 hp
      gi_wp2
      refine HR.out.mono ?_
      rintro e W3 ⟨rfl, hj3, hk3⟩
      rw [H3.out] at hj3
      gi_wp2
      go_end0
      exact ⟨⟨_, rfl⟩, hj3⟩
    · have h2 : (128 : Int) ≤ (m : Int) := by omega
      have h3 := putL_head hp.out h1
      have hq := HY.out pre (m % 128 + 128) wr hj (by rw [h3]; exact List.prefix_append _ _)
      rw [← or_byte] at hq
      obtain ⟨fn, tmps, assign, body, hy, hR⟩ := hq
      have HR := Lib.hid hR
      have H3 := Lib.hid h3
      have HM := Lib.hid (And.intro h1 hm)
      clear hR h3 hp
      gi_wp2
      refine HR.out.mono ?_
      rintro e W3 ⟨rfl, hj3, hk3⟩
      have hc3 : W3.cell? ⟨nb, 0, none⟩ = some (.int .u64 (m : Int)) := (hk3.cell (p := ⟨nb, 0, none⟩) hnb).trans hc
      have hf3 : W3.frozen? ⟨nb, 0, none⟩ = false := (hk3.frozen (p := ⟨nb, 0, none⟩) hnb).trans hf
      gi_wp2
      go_roundw
      case rel => exact ⟨pre ++ [m % 128 + 128], m / 128, H3, by omega, by simp [go_sem, hc3], by simp [go_sem, hf3], HJ.out _ _ _ hj3⟩
      case measure => simp [go_sem, hc3, hc]; omega
/-- what AppendSeq's box holds -/
def AppI (n0 : Nat) (w : World) (t e : TypeId) (xs : List Value) (W : World) : Prop := (∃ v, Boxed W w.heap.size t v ∧ W.ownsRow w.heap.size e 1 v xs.length xs) ∧ Below n0 w W
theorem u8_info : (Try.prog.info? 5).map (fun i => (i.zero, i.size, i.bytes)) = some (some (.int .u8 0), 1, 1) := by kernel_rfl
/-- bytes, as cells -/
def by_ (l : List Nat) : List Value := l.map fun (x : Nat) => Value.int .u8 (x : Int)
theorem by_snoc (l : List Nat) (x : Nat) : by_ l ++ [Value.int .u8 (x : Int)] = by_ (l ++ [x]) := by simp [by_]
theorem by_len (l : List Nat) : (by_ l).length = l.length := by simp [by_]
set_option maxRecDepth 100000 in
set_option maxHeartbeats 2000000 in
theorem cAppendSeq_any (nb N : Nat) (hN : N < 18446744073709551616) (n0 : Nat) (w : World) (hn0 : n0 ≤ nb) (hnb : nb < w.heap.size) (hc : w.cell? ⟨nb, 0, none⟩ = some (.int .u64 (N : Int))) (hf : w.frozen? ⟨nb, 0, none⟩ = false) :
    Calls Try.prog 145 #[.slice none 0 0, .func (.func 146) #[] #[.pointer (some ⟨nb, 0, none⟩)]] w fun e W' => ∃ v, e = .returned v ∧ W'.ownsRow w.heap.size 5 1 v (putL N).length (by_ (putL N)) ∧ Below n0 w W' := by
  obtain ⟨i0, hi, hz0, hz1, hz2⟩ := info_parts u8_info
  have hlen : (putL N).length ≤ 10 := putL_len N 9 (by omega)
  refine (callsIn_wide (n := 5)).1 ?_
  refine callsIn_of_wp_marks Try.func145 rfl trivial ?_ rfl
  simp only [Try.ntmps145, List.size_toArray, List.length_cons, List.length_nil, Nat.reduceAdd, Nat.reduceSub, Array.replicate_succ, Array.replicate_zero, List.push_toArray, List.append_toArray, List.nil_append, List.cons_append]
  gi_wp2
  have bO := Boxed.new w 56 (.slice none 0 0)
  have hB0 : Below n0 w (w.alloc (.cells #[.slice none 0 0] 56)) := (Below.refl _ w).alloc (by omega) _
  have hB1 : Below w.heap.size w (w.alloc (.cells #[.slice none 0 0] 56)) := (Below.refl _ w).alloc (Nat.le_refl _) _
  have hc1 := (hB1.cell (p := ⟨nb, 0, none⟩) hnb).trans hc
  have hf1 := (hB1.frozen (p := ⟨nb, 0, none⟩) hnb).trans hf
  refine rangeFunc_cell rfl (by decide) (gf := 146) (lb := #[.pointer (some ⟨nb, 0, none⟩)]) rfl trivial (enters_of Try.func146 (by kernel_rfl) rfl) (enc := fun x : Nat => Value.int .u8 (x : Int)) (xs := putL N) (nb := nb) (by simp; omega) (n0 := w.heap.size) (by simp)
    (fun l J W hW hJ hY h0 => cdigits1_in _ _ trivial rfl (by decide) l nb w.heap.size J W N hN hJ hY hnb ((hW.cell (p := ⟨nb, 0, none⟩) (by simp; omega)).trans hc1) ((hW.frozen (p := ⟨nb, 0, none⟩) (by simp; omega)).trans hf1) h0)
    rfl
    (fun pre W => AppI n0 w 56 5 (by_ pre) W)
    (fun s A v hs => ?_) (fun s A l o o' hs hl ho hnc => ?_) (fun s A o hs => ?_)
    ⟨⟨_, bO, World.ownsRow_nil _ _ _ _⟩, hB0⟩
    (fun x => { tmps := #[.slice none 0 0, .func (.func 146) #[] #[.pointer (some ⟨nb, 0, none⟩)], .pointer (some ⟨w.heap.size, 0, none⟩), undef, .slice none 0 0, .int .u8 (x : Int), .func (.func 146) #[] #[.pointer (some ⟨nb, 0, none⟩)], .int .u8 (x : Int), undef, undef, undef, undef, undef], defers := [] }) ?assign ?body ?done
  case assign =>
    intro l x W K hK
    gi_wp2
    exact hK
  case body =>
    rintro l pre x W ⟨⟨v, hv, hrow⟩, hB⟩ hpre
    have hc := hv.cell
    rw [by_len] at hrow
    have hpl : pre.length < 10 := by
      have := hpre.length_le
      simp at this
      omega
    have hWs : w.heap.size ≤ W.heap.size := by have := hv.lt; omega
    gi_wp2_with (gi_at_builtin; refine wpListIn_append_own _ rfl _ _ 56 rfl w.heap.size 5 i0 (.int .u8 0) 1 1 Try.underlying56 hi hz0 hz1 hz2 rfl (by decide) _ _ _ rfl (hrow.alloc _) ⟨W.heap.size, 0, none⟩ 1 1 [.int .u8 (x : Int)] rfl rfl (cell_one_new _ _ _) (by simp [Value.oneCell']) (by simp [maxLen]; omega) (by omega) (by simp; omega) ?_; intro v' w1 hown' hgrow _; obtain ⟨g', cap', rfl⟩ := ownsRow_succ hown'; obtain ⟨hv1, hv2, hr2, hk2, hb2⟩ := hv.appended (by decide) hrow hWs (Nat.le_refl _) hown' hgrow; have hc1 := hv1.cell; have hf1 := hv1.frozen)
    rw [by_snoc] at hr2
    exact ⟨hk2, hb2, ⟨_, hv2, by simpa [by_len] using hr2⟩, hB.trans (hb2.mono (by omega))⟩
  case done =>
    rintro D W hD ⟨⟨v, hv, hrow⟩, hB⟩ hK
    rw [by_len] at hrow
    have hc := hv.cell
    gi_wp2
    refine ⟨by simp, .inl ⟨_, _, rfl, run_takeDeferred hK, ?_⟩⟩
    exact ⟨_, results_tmp rfl _ _ _, v, rfl, ownsRow_putObj hrow _ hK rfl, hB.trans (belowK_b (w := w) (by omega) W D _ _ (by simp at hD; omega) hK rfl rfl)⟩
  · obtain ⟨⟨v', hv, hrow⟩, hB⟩ := hs
    refine ⟨⟨v', hv.kept (grownBy_setCell' A nb v) (by simp; omega), ?_⟩, hB.setCell (p := ⟨nb, 0, none⟩) hn0 _⟩
    exact ownsRow_setCell_below hrow hnb _
  · obtain ⟨⟨v', hv, hrow⟩, hB⟩ := hs
    refine ⟨⟨v', hv.kept (grownBy_putObj' A l o') (by simp at hl ⊢; omega), ownsRow_putObj hrow _ ho hnc⟩, hB.grown (grownBy_putObj' A l o') (by have := hB.size; omega) (fun k e => by cases e; simp at hl; omega)⟩
  · obtain ⟨⟨v', hv, hrow⟩, hB⟩ := hs
    exact ⟨⟨v', hv.alloc _, hrow.alloc _⟩, hB.alloc (by have := hB.size; omega) _⟩
theorem cCollect_any (nb N : Nat) (hN : N < 18446744073709551616) (n0 : Nat) (w : World) (hn0 : n0 ≤ nb) (hnb : nb < w.heap.size) (hc : w.cell? ⟨nb, 0, none⟩ = some (.int .u64 (N : Int))) (hf : w.frozen? ⟨nb, 0, none⟩ = false) :
    Calls Try.prog 143 #[.func (.func 146) #[] #[.pointer (some ⟨nb, 0, none⟩)]] w fun e W' => ∃ v, e = .returned v ∧ W'.ownsRow n0 5 1 v (putL N).length (by_ (putL N)) ∧ Below n0 w W' := by
  have C := Lib.hid (cAppendSeq_any nb N hN n0 w hn0 hnb hc hf)
  have hbs : n0 ≤ w.heap.size := by omega
  clear hc hf hnb hn0
  go_enter Try.func143, Try.ntmps143
  go_wp2_with fail
  refine C.out.mono ?_
  rintro e w2 ⟨v, rfl, h1, h2⟩
  have H := Lib.hid (show ∃ v', Ending.returned v = .returned v' ∧ w2.ownsRow n0 5 1 v' (putL N).length (by_ (putL N)) ∧ Below n0 w w2 from ⟨v, rfl, World.ownsRow.mono h1 hbs, h2⟩)
  clear h1 h2 C
  go_wp2_with fail
  go_ret
  exact H.out
theorem cdigits_any (N : Int) (w : World) :
    Calls Try.prog 144 #[.int .u64 N] w fun e w' => e = .returned (.func (.func 146) #[] #[.pointer (some ⟨w.heap.size, 0, none⟩)]) ∧ w' = w.alloc (.cells #[.int .u64 N] 41) := by
  have hmf : ∀ (fn : Fn) (first cap : Array Value) (w : World), (Instr.makeFunc fn first cap).run Try.prog w = .ok (.func fn first cap) w := fun _ _ _ _ => rfl
  go_enter Try.func144, Try.ntmps144
  go_wp2
  go_ret
  exact ⟨rfl, rfl⟩
/-- bytes handed back: new memory; nothing that was there has turned -/
def ByRet (l : List Nat) (w : World) (e : Ending) (w' : World) : Prop := ∃ v, e = .returned v ∧ w'.ownsRow w.heap.size 5 1 v l.length (by_ l) ∧ Ext w w'
theorem cPut_any (N : Nat) (hN : N < 18446744073709551616) (w : World) : Calls Try.prog 139 #[.int .u64 (N : Int)] w (ByRet (putL N) w) := by
  go_enter Try.func139, Try.ntmps139
  go_wp2_with fail
  refine (cdigits_any _ _).mono ?_
  rintro e w1 ⟨rfl, rfl⟩
  go_wp2_with fail
  refine (cCollect_any w.heap.size N hN w.heap.size _ (Nat.le_refl _) (by simp) (by simp [go_sem]) (by simp [go_sem])).mono ?_
  rintro e w2 ⟨v, rfl, h1, h2⟩
  have H := Lib.hid (show ByRet (putL N) w (.returned v) w2 from ⟨v, rfl, h1, Below.trans ((Below.refl _ w).alloc (Nat.le_refl _) _) h2⟩)
  clear h1 h2
  go_wp2_with fail
  go_ret
  exact H.out
end
section
open Go.RowKit
theorem run_append_none {P : Program} (w : World) (base : Nat) (t ty e : TypeId) (i : TypeInfo) (size : Nat) (ht : P.underlying t = some (.slice e)) (hi : P.info? e = some i)
    (v : Value) (n : Nat) (xs : List Value) (hown : w.ownsRow base e size v n xs) (c : Nat) : (Builtin.append_ #[t, t] ty #[v, .slice none 0 c]).run P w = .ok v w := by
  rcases hown.2 with ⟨rfl, rfl⟩ | ⟨g, cap, cur, rfl, _, _, hnc, _⟩
  · simp [Builtin.append_, run_underlying ht, sizeOf, typeInfo, hi, Builtin.lenOf, Builtin.firstCells]
  · simp [Builtin.append_, run_underlying ht, sizeOf, typeInfo, hi, Builtin.lenOf, Builtin.firstCells, hnc, storeCells]

/-- append of a slice that reads as cells onto an owned slice: owned anew, nothing below 'base' has turned -/
theorem wpList_append_sl {P : Program} (w : World) {ops : Array Oper} {rest : List Oper} {o : Oper} {a : Act} {Q : Exit → Act → World → Prop} (hgd : o.guard = none) (s x : Operand) (t : TypeId)
    (ho : o.op = .call { callee := .builtin .append, args := #[s, x], argTypes := #[t, t] })
    (base : Nat) (e : TypeId) (i : TypeInfo) (z : Value) (size bytes : Nat) (ht : P.underlying t = some (.slice e)) (hi : P.info? e = some i) (hz : i.zero = some z)
    (hsize : i.size = size) (hby : i.bytes = bytes) (hzs : z.cells.size = size) (hsz : 0 < size)
    (v : Value) (n : Nat) (xs : List Value) (hs : a.eval s = v) (hown : w.ownsRow base e size v n xs) (A : Option Addr) (m c : Nat) (news : List Value)
    (hx : a.eval x = .slice A m c) (hS : Sl w size A m c news) (h1 : ∀ u ∈ news, u.oneCell' = true)
    (hn : n + m < 1099511627776) (hb128 : bytes ≤ 127) (hbase : base ≤ w.heap.size)
    (h : ∀ v' w', w'.ownsRow base e size v' (n + m) (xs ++ news) → Below base w w' → wpList P ops Q rest (a.put o.dst v') w') :
    wpList P ops Q (o :: rest) a w := by
  have hby2 : (n + m) * bytes ≤ 140737488355328 := by
    have : (n + m) * bytes ≤ 1099511627776 * 127 := Nat.mul_le_mul (by omega) hb128
    omega
  rcases A with _ | ad
  · have hm : m = 0 := by
      rcases Nat.eq_zero_or_pos m with h0 | h0
      · exact h0
      · obtain ⟨_, _, hh, _⟩ := hS.at_ h0
        cases hh
    subst hm
    have hnw : news = [] := hS.drop0
    subst hnw
    have hrun := run_append_none (P := P) w base t o.type e i size ht hi v n xs hown c
    have hk := h v w (by simpa using hown) (Below.refl _ _)
    refine wpList_plain hgd fun K hK => ?_
    unfold Oper.wp execOp
    simp only [ho, resolve, invoke, builtin, Sem.run_bind, Sem.run_pure, Result.andThen_ok, List.map_toArray, List.map_cons, List.map_nil, hs, hx, hrun]
    exact hK _ _ hk
  · have hcells : ∀ j u, news[j]? = some u → w.cell? (ad.add j) = some u := by
      intro j u hu
      rcases Nat.eq_zero_or_pos m with h0 | h0
      · subst h0
        rw [hS.drop0] at hu
        simp at hu
      · obtain ⟨b, o', hh, _, hc⟩ := hS.at_ h0
        injection hh with hh
        subst hh
        rw [addr_add]
        exact hc j u hu
    refine wpList_append_own w hgd s x t ho base e i z size bytes ht hi hz hsize hby hzs hsz v n xs hs hown ad m c news hx hS.len hcells h1
      (by simp [maxLen]; omega) hby2 hbase ?_
    intro v' w' h2 h3 h4
    exact h v' w' h2 ((Below.refl base w).grown h3 hbase (fun k hk => (hown.lt k hk).1))

/-- a slice that was just laid -/
theorem sl_new (w : World) (e : TypeId) (sz : Nat) (cs : Array Value) (n : Nat) (h : cs.size = n * sz) (hn : n ≤ 1000000) : Sl (w.alloc (.cells cs e)) sz (some ⟨w.heap.size, 0, none⟩) n n cs.toList := by
  refine ⟨by simpa using h, Nat.le_refl _, by simp [maxLen]; omega, fun _ => ⟨w.heap.size, 0, rfl, by simp, fun j u hu => ?_⟩⟩
  rw [Nat.zero_add, cell_of_row _ _ j cs e (0, 0) (heap_alloc_new w _)]
  simpa using hu
theorem own_empty (w : World) (e : TypeId) (sz : Nat) : (w.alloc (.cells #[] e)).ownsRow w.heap.size e sz (.slice (some ⟨w.heap.size, 0, none⟩) 0 0) 0 [] :=
  World.ownsRow_lit w #[] 0 (Nat.le_refl _) (by simp [maxLen]) (by simp)
end
section
open Go.RowKit Go.ChangeShapes Go.WideShapes
/-- the number fits its kind -/
def Fits (k : IntKind) (x : Int) : Prop := (Lit.int k x).wf = true
theorem Fits.u64 {x : Int} (h : Fits .u64 x) : 0 ≤ x ∧ x < 18446744073709551616 := by
  have := bounds_u64 (n := x) h
  omega
theorem Fits.i64 {x : Int} (h : Fits .i64 x) : -9223372036854775808 ≤ x ∧ x ≤ 9223372036854775807 := bounds_i64 (n := x) h

section
variable {H : Type} {enc : TypeId × Value → H} {P : Program} {w : World} {base : Nat} {spare : Nat → Bool} {held : Bool}
/-- a slice that came in, its cells, and how each element reads -/
theorem open_raw {t e : TypeId} {sz fuel n c : Nat} {A : Option Addr} {x : DataW H × List MemPlace} (ht : P.underlying t = some (.slice e)) (hsz : P.cellsOf e = sz) (hpos : 0 < sz)
    (h : DataW.trod enc P w base spare held fuel t [.slice A n c] = some x) :
    ∃ xs : List Value, Sl w sz A n c xs ∧ ∀ i, i < n → ∃ m y, DataW.trod enc P w base spare held m e ((xs.drop (i * sz)).take sz) = some y := by
  rcases Go.Deep.open_slice ht h with ⟨h0, _⟩ | ⟨a, len, cap, m, n', D, Pl, hcs, _, hl, hm, hmm, _, hi⟩
  · simp at h0
    obtain ⟨rfl, rfl, rfl⟩ := h0
    exact ⟨[], Sl.nil _ _, fun i hi => absurd hi (by omega)⟩
  · simp at hcs
    obtain ⟨rfl, rfl, rfl⟩ := hcs
    subst hsz
    have hnm : n ≤ m := by rw [hmm]; split <;> omega
    -- the cells, one by one
    have hcell : ∀ i, i < n → ∀ j, j < P.cellsOf e → ∃ v, w.cell? (a.add (i * P.cellsOf e + j)) = some v := by
      intro i hin j hj
      obtain ⟨cs', hc, ht'⟩ := hi i (by omega)
      obtain ⟨_, hcl, hat⟩ := World.cells?_some hc
      refine ⟨cs'[j]'(by omega), ?_⟩
      have := hat j hj
      rw [Go.Deep.add_add] at this
      rw [this, List.getElem?_eq_getElem (by omega)]
    obtain ⟨b, o, spot⟩ := a
    rcases Nat.eq_zero_or_pos n with hn0 | hnp
    · subst hn0
      exact ⟨[], ⟨by simp, by omega, hm, fun h => absurd h (by omega)⟩, fun i hi => absurd hi (by omega)⟩
    · have hspot : spot = none := by
        obtain ⟨v, hv⟩ := hcell 0 hnp 0 hpos
        simpa [Addr.add] using World.cell?_spot hv
      subst hspot
      let f : Nat → Value := fun j => (w.cell? ⟨b, o + j, none⟩).getD undef
      have hf : ∀ j, j < n * P.cellsOf e → w.cell? ⟨b, o + j, none⟩ = some (f j) := by
        intro j hj
        have h1 : j / P.cellsOf e < n := by rw [Nat.div_lt_iff_lt_mul hpos]; exact hj
        obtain ⟨v, hv⟩ := hcell (j / P.cellsOf e) h1 (j % P.cellsOf e) (Nat.mod_lt _ hpos)
        rw [Nat.div_add_mod', addr_add] at hv
        show _ = some ((w.cell? ⟨b, o + j, none⟩).getD undef)
        rw [hv]; rfl
      have hb : b < w.heap.size := by
        have h1 := hf 0 (by exact Nat.mul_pos hnp hpos)
        unfold World.cell? at h1
        rcases hx : w.heap[b]? with _ | ob
        · simp [hx] at h1
        · exact (Array.getElem?_eq_some_iff.1 hx).1
      refine ⟨(List.range (n * P.cellsOf e)).map f, ⟨by simp, by omega, hm, fun _ => ⟨b, o, rfl, hb, fun j u hu => ?_⟩⟩, fun i hin => ?_⟩
      · rw [List.getElem?_map] at hu
        rcases Nat.lt_or_ge j (n * P.cellsOf e) with hj | hj
        · rw [List.getElem?_range hj] at hu
          simp at hu
          rw [hf j hj, hu]
        · rw [List.getElem?_eq_none (by simpa using hj)] at hu
          simp at hu
      · obtain ⟨cs', hc, ht'⟩ := hi i (by omega)
        obtain ⟨_, hcl, hat⟩ := World.cells?_some hc
        have e1 : (((List.range (n * P.cellsOf e)).map f).drop (i * P.cellsOf e)).take (P.cellsOf e) = cs' := by
          apply List.ext_getElem?
          intro j
          rw [List.getElem?_take]
          have hle : (i + 1) * P.cellsOf e ≤ n * P.cellsOf e := Nat.mul_le_mul_right _ hin
          rw [Nat.add_mul, Nat.one_mul] at hle
          split
          · rename_i hj
            rw [List.getElem?_drop, List.getElem?_map, List.getElem?_range (by omega)]
            have h2 := hat j hj
            rw [Go.Deep.add_add, addr_add] at h2
            rw [← h2, hf _ (by omega)]
            rfl
          · rename_i hj
            rw [List.getElem?_eq_none (by omega)]
        exact ⟨n', (D i, Pl i), by rw [e1]; exact ht'⟩
theorem open_sl {t e : TypeId} {k : IntKind} {n c : Nat} {A : Option Addr} {d : DataW H} {p : List MemPlace} (ht : P.underlying t = some (.slice e)) (he : P.underlying e = some (.int k)) (hc : P.cellsOf e = 1)
    (h : DataW.Trod enc P w base spare held t (.slice A n c) d p) (_hlt : ∀ x ∈ p, x.block < w.heap.size) : ∃ l : List Int, Sl w 1 A n c (iv k l) ∧ ∀ x ∈ l, Fits k x := by
  obtain ⟨fuel, hf⟩ := h
  obtain ⟨xs, hs, hr⟩ := open_raw ht hc (by decide) (by simpa [Value.cells] using hf)
  have hlen := hs.len
  rw [Nat.mul_one] at hlen
  have hel : ∀ i (hi : i < xs.length), ∃ z, xs[i] = .int k z ∧ Fits k z := by
    intro i hi
    obtain ⟨m, y, hy⟩ := hr i (by omega)
    rw [Nat.mul_one, List.drop_eq_getElem_cons hi] at hy
    obtain ⟨z, hz, _, hw⟩ := DataW.trod_int he hy
    exact ⟨z, List.head_eq_of_cons_eq (show xs[i] :: [] = _ :: [] from hz), hw⟩
  refine ⟨xs.map (fun v => match v with | .int _ z => z | _ => 0), ?_, ?_⟩
  · have : iv k (xs.map (fun v => match v with | .int _ z => z | _ => 0)) = xs := by
      unfold iv
      rw [List.map_map]
      apply List.ext_getElem
      · simp
      · intro i h1 h2
        obtain ⟨z, hz, _⟩ := hel i h2
        simp [hz]
    rw [this]
    exact hs
  · intro x hx
    rw [List.mem_map] at hx
    obtain ⟨v, hv, rfl⟩ := hx
    obtain ⟨i, hi, rfl⟩ := List.mem_iff_getElem.1 hv
    obtain ⟨z, hz, hw⟩ := hel i hi
    simp only [hz]
    exact hw
end
end
section
open Go.RowKit
/-- a writer lies at block g: its limit, its error, what was written (in a row beyond g) -/
structure Wr (w : World) (g : Nat) (lim err : Int) (L : List Nat) : Prop where
  b : ∃ A c, w.cell? ⟨g, 0, none⟩ = some (.slice A L.length c) ∧ w.ownsRow (g + 1) 5 1 (.slice A L.length c) L.length (by_ L)
  c1 : w.cell? ⟨g, 1, none⟩ = some (.int .i64 lim)
  c2 : w.cell? ⟨g, 2, none⟩ = some (.bool true)
  c3 : w.cell? ⟨g, 3, none⟩ = some (.int .i64 err)
  f0 : w.frozen? ⟨g, 0, none⟩ = false
  f3 : w.frozen? ⟨g, 3, none⟩ = false
  lt : g < w.heap.size
  short : L.length ≤ 1048576
  l0 : 0 ≤ lim
  l1 : lim ≤ 1048576
theorem Wr.keep {w w' : World} {g : Nat} {lim err : Int} {L : List Nat} (h : Wr w g lim err L) (hb : Below w.heap.size w w') : Wr w' g lim err L := by
  obtain ⟨A, c, h0, h1⟩ := h.b
  have cl : ∀ o, w'.cell? ⟨g, o, none⟩ = w.cell? ⟨g, o, none⟩ := fun o => hb.cell (p := ⟨g, o, none⟩) h.lt
  have fl : ∀ o, w'.frozen? ⟨g, o, none⟩ = w.frozen? ⟨g, o, none⟩ := fun o => hb.frozen (p := ⟨g, o, none⟩) h.lt
  have hs := hb.size
  refine ⟨⟨A, c, (cl 0).trans h0, ?_⟩, (cl 1).trans h.c1, (cl 2).trans h.c2, (cl 3).trans h.c3, (fl 0).trans h.f0, (fl 3).trans h.f3, by have := h.lt; omega, h.short, h.l0, h.l1⟩
  refine ⟨h1.1, ?_⟩
  rcases h1.2 with h2 | ⟨q, cap, cur, e, hq, hq2, rest⟩
  · exact .inl h2
  · exact .inr ⟨q, cap, cur, e, hq, (hb.block q (Array.getElem?_eq_some_iff.1 hq2).1).trans hq2, rest⟩
theorem cstate_any (g : Nat) (e : Int) (w : World) (h2 : w.cell? ⟨g, 2, none⟩ = some (.bool true)) (h3 : w.cell? ⟨g, 3, none⟩ = some (.int .i64 e)) :
    Calls Try.prog 132 #[.pointer (some ⟨g, 0, none⟩)] w fun r w' => r = .returned (.int .i64 e) ∧ w = w' := by
  go_enter Try.func132, Try.ntmps132
  go_wp2
  go_ret
  exact ⟨rfl, rfl⟩
theorem cadd_err (g : Nat) (lim e : Int) (L : List Nat) (v : Value) (w : World) (h : Wr w g lim e L) (he : ¬ e = 0) :
    Calls Try.prog 138 #[.pointer (some ⟨g, 0, none⟩), v] w fun r w' => r = .returned (.int .i64 e) ∧ w = w' := by
  have H2 := h.c2
  have H3 := h.c3
  have hef : (e == 0) = false := beq_false_of_ne he
  clear h he
  go_enter Try.func138, Try.ntmps138
  go_wp2_with fail
  refine (cstate_any g e _ H2 H3).mono ?_
  rintro r w1 ⟨rfl, rfl⟩
  go_wp2
  go_ret
  exact ⟨rfl, rfl⟩
theorem Wr.drewN {w : World} {g : Nat} {lim err : Int} {L : List Nat} (h : Wr w g lim err L) (n : Nat) : Wr (w.drewN n) g lim err L := h.keep (below_drewN (Below.refl _ _) n)
theorem Wr.setErr {w : World} {g : Nat} {lim err : Int} {L : List Nat} (h : Wr w g lim err L) (e : Int) : Wr (w.setCell ⟨g, 3, none⟩ (.int .i64 e)) g lim e L := by
  obtain ⟨A, c, h0, h1⟩ := h.b
  have c1 := h.c1
  have c2 := h.c2
  have c3 := h.c3
  have f0 := h.f0
  have f3 := h.f3
  exact ⟨⟨A, c, by simp [go_sem, h0], ownsRow_setCell_below h1 (by simp) _⟩, by simp [go_sem, c1], by simp [go_sem, c2], by simp [go_sem, c3], by simp [go_sem, f0], by simp [go_sem, f3], by simpa using h.lt, h.short, h.l0, h.l1⟩
theorem by_one {l : List Nat} : ∀ u ∈ by_ l, u.oneCell' = true := by
  intro u hu
  unfold by_ at hu
  obtain ⟨x, _, rfl⟩ := List.mem_map.1 hu
  rfl
theorem by_append (a b : List Nat) : by_ a ++ by_ b = by_ (a ++ b) := by simp [by_]
set_option maxHeartbeats 1000000 in
theorem cadd_long (g : Nat) (lim : Int) (L : List Nat) (B : Option Addr) (m d : Nat) (w : World) (h : Wr w g lim 0 L) (hm : m ≤ 1048576) (hl : lim - L.length < m) :
    Calls Try.prog 138 #[.pointer (some ⟨g, 0, none⟩), .slice B m d] w fun r w' => r = .returned (.int .i64 4) ∧ Wr w' g lim 4 L ∧ Below g w w' := by
  have H2 := h.c2
  have H3 := h.c3
  obtain ⟨A, c, H0, hown⟩ := h.b
  have H1 := h.c1
  have F3 := h.f3
  have l0 := h.l0
  have l1 := h.l1
  have l2 := h.short
  have HH := Lib.hid h
  have hln : (L.length : Int) ≤ 1048576 := by omega
  have hmn : (m : Int) ≤ 1048576 := by omega
  have e1 : decide (lim - (L.length : Int) < (m : Int)) = true := by simpa using hl
  clear hown h hl
  generalize hLn : L.length = N at *
  replace hLn := Lib.hid hLn
  have eq1 : IntKind.i64.wrap (lim - (N : Int)) = lim - N := IntWalk.i64_in _ (by omega)
  go_enter Try.func138, Try.ntmps138
  go_wp2_with fail
  refine (cstate_any g 0 _ H2 H3).mono ?_
  rintro r w1 ⟨rfl, rfl⟩
  go_wp2_with fail
  go_quiet (fail)
  go_wp2
  go_ret
  exact ⟨rfl, (HH.out.drewN _).setErr 4, (below_drewN (Below.refl _ _) _).setCell (p := ⟨g, 3, none⟩) (Nat.le_refl _) _⟩
set_option maxHeartbeats 1000000 in
theorem cadd_ok (g : Nat) (lim : Int) (L bl : List Nat) (B : Option Addr) (m d : Nat) (w : World) (h : Wr w g lim 0 L) (hS : Sl w 1 B m d (by_ bl)) (hl : ¬ lim - L.length < m) :
    Calls Try.prog 138 #[.pointer (some ⟨g, 0, none⟩), .slice B m d] w fun r w' => r = .returned (.int .i64 0) ∧ Wr w' g lim 0 (L ++ bl) ∧ Below g w w' := by
  obtain ⟨i0, hi, hz0, hz1, hz2⟩ := info_parts u8_info
  have hbm : bl.length = m := by have := hS.len; rw [by_len] at this; omega
  have H2 := h.c2
  have H3 := h.c3
  obtain ⟨A, c, H0, hown⟩ := h.b
  have H1 := h.c1
  have F0 := h.f0
  have l0 := h.l0
  have l1 := h.l1
  have l2 := h.short
  have lt := h.lt
  have HH := Lib.hid h
  have HO := Lib.hid hown
  have HS := Lib.hid hS
  have hln : (L.length : Int) ≤ 1048576 := by omega
  have hmn : (m : Int) ≤ 1048576 := by omega
  have e1 : decide (lim - (L.length : Int) < (m : Int)) = false := decide_eq_false hl
  have hbm := Lib.hid hbm
  have hle : (L.length : Int) + m ≤ lim := by omega
  clear h hown hl hS
  generalize hLn : L.length = N at *
  replace hLn := Lib.hid hLn
  have eq1 : IntKind.i64.wrap (lim - (N : Int)) = lim - N := IntWalk.i64_in _ (by omega)
  go_enter Try.func138, Try.ntmps138
  go_wp2_with fail
  refine (cstate_any g 0 _ H2 H3).mono ?_
  rintro r w1 ⟨rfl, rfl⟩
  go_wp2_with fail
  go_quiet (fail)
  go_wp2_with (at_builtin; refine wpList_append_sl (w.drewN nq) rfl _ _ 56 rfl (g + 1) 5 i0 (.int .u8 0) 1 1 Try.underlying56 hi hz0 hz1 hz2 rfl (by decide) _ N (by_ L) (by rfl) HO.out B m d (by_ bl) (by rfl) (HS.out.ext ((Ext.refl _).drewN _)) by_one (by omega) (by decide) (by simp; omega) ?_; intro v1 w1 hown1 hb1; obtain ⟨A1, c1, rfl, s1⟩ := own_parts hown1; have q0 : w1.cell? ⟨g, 0, none⟩ = some (.slice A N c) := (hb1.cell (p := ⟨g, 0, none⟩) (by simp)).trans H0; have q1 : w1.frozen? ⟨g, 0, none⟩ = false := (hb1.frozen (p := ⟨g, 0, none⟩) (by simp)).trans F0; have HB := Lib.hid hb1; have HW := Lib.hid hown1; clear hb1 hown1 s1)
  go_ret
  refine ⟨rfl, ?_, ?_⟩
  · have hb := HB.out
    have hh := HH.out
    have eL : (L ++ bl).length = N + m := by rw [List.length_append, hLn.out, hbm.out]
    have cl : ∀ o, w1.cell? ⟨g, o, none⟩ = w.cell? ⟨g, o, none⟩ := fun o => hb.cell (p := ⟨g, o, none⟩) (by simp)
    have fl : ∀ o, w1.frozen? ⟨g, o, none⟩ = w.frozen? ⟨g, o, none⟩ := fun o => hb.frozen (p := ⟨g, o, none⟩) (by simp)
    have e0 := cl 0; have e1 := (cl 1).trans hh.c1; have e2 := (cl 2).trans hh.c2; have e3 := (cl 3).trans hh.c3
    have g0 := (fl 0).trans hh.f0; have g3 := (fl 3).trans hh.f3
    have hs := hb.size
    simp at hs
    refine ⟨⟨A1, c1, by rw [eL]; simp [go_sem, q0], ?_⟩, by simp [go_sem, e1], by simp [go_sem, e2], by simp [go_sem, e3], by simp [go_sem, g0], by simp [go_sem, g3], by simp; omega, by rw [eL]; omega, l0, l1⟩
    rw [eL, ← by_append]
    exact ownsRow_setCell_below HW.out (by simp) _
  · have hbg : Below g (w.drewN nq) w1 := HB.out.mono (Nat.le_succ g)
    exact ((below_drewN (Below.refl g w) nq).trans hbg).setCell (p := ⟨g, 0, none⟩) (Nat.le_refl _) _
/-- what an add makes of a writer: error, bytes -/
def wAddE (lim err : Int) (L b : List Nat) : Int := if err = 0 then (if lim - L.length < b.length then 4 else 0) else err
def wAddL (lim err : Int) (L b : List Nat) : List Nat := if wAddE lim err L b = 0 then L ++ b else L
theorem cadd_any (g : Nat) (lim e : Int) (L bl : List Nat) (B : Option Addr) (m d : Nat) (w : World) (h : Wr w g lim e L) (hS : Sl w 1 B m d (by_ bl)) (hm : m ≤ 1048576) :
    Calls Try.prog 138 #[.pointer (some ⟨g, 0, none⟩), .slice B m d] w fun r w' => r = .returned (.int .i64 (wAddE lim e L bl)) ∧ Wr w' g lim (wAddE lim e L bl) (wAddL lim e L bl) ∧ Below g w w' := by
  have hbm : bl.length = m := by have := hS.len; rw [by_len] at this; omega
  unfold wAddL wAddE
  rw [hbm]
  by_cases he : e = 0
  · subst he
    rw [if_pos rfl]
    by_cases hl : lim - L.length < m
    · rw [if_pos hl, if_neg (by decide)]
      exact cadd_long g lim L B m d w h hm hl
    · rw [if_neg hl, if_pos rfl]
      exact cadd_ok g lim L bl B m d w h hS hl
  · rw [if_neg he, if_neg he]
    refine (cadd_err g lim e L _ w h he).mono ?_
    rintro r w' ⟨h1, rfl⟩
    exact ⟨h1, h, Below.refl _ _⟩
theorem cWU_any (g : Nat) (lim e : Int) (L : List Nat) (N : Nat) (hN : N < 18446744073709551616) (w : World) (h : Wr w g lim e L) :
    Calls Try.prog 120 #[.pointer (some ⟨g, 0, none⟩), .int .u64 (N : Int)] w fun r w' => r = .returned (.int .i64 (wAddE lim e L (putL N))) ∧ Wr w' g lim (wAddE lim e L (putL N)) (wAddL lim e L (putL N)) ∧ Below g w w' := by
  have H := Lib.hid h
  have hp : (putL N).length ≤ 1048576 := by have := putL_len N 9 (by omega); omega
  have HP := Lib.hid hp
  obtain ⟨E, hE⟩ : ∃ E, E = wAddE lim e L (putL N) := ⟨_, rfl⟩
  obtain ⟨M, hM⟩ : ∃ M, M = wAddL lim e L (putL N) := ⟨_, rfl⟩
  rw [← hE, ← hM]
  have HE := Lib.hid (And.intro hE hM)
  clear h hE hM hp
  go_enter Try.func120, Try.ntmps120
  go_wp2_with fail
  refine (cPut_any N hN _).mono ?_
  rintro r w1 ⟨v, rfl, h1, hx1⟩
  obtain ⟨A1, c1, rfl, s1⟩ := own_parts h1
  have C := cadd_any g lim e L (putL N) A1 (putL N).length c1 w1 (H.out.keep hx1) s1 HP.out
  rw [← HE.out.1, ← HE.out.2] at C
  replace C := Lib.hid C
  have X1 := Lib.hid (And.intro hx1 H.out.lt)
  clear h1 s1 hx1
  go_wp2_with fail
  refine C.out.mono ?_
  rintro r w2 ⟨rfl, hw2, hb2⟩
  have W2 := Lib.hid (And.intro hw2 hb2)
  clear hw2 hb2 C
  go_wp2_with fail
  go_ret
  exact ⟨rfl, W2.out.1, (X1.out.1.mono (by have := X1.out.2; omega)).trans W2.out.2⟩
theorem cWN_pos (g : Nat) (lim : Int) (L : List Nat) (N : Nat) (hN : N < 9223372036854775808) (w : World) (h : Wr w g lim 0 L) :
    Calls Try.prog 102 #[.pointer (some ⟨g, 0, none⟩), .int .i64 (N : Int)] w fun r w' => r = .returned (.int .i64 (wAddE lim 0 L (putL N))) ∧ Wr w' g lim (wAddE lim 0 L (putL N)) (wAddL lim 0 L (putL N)) ∧ Below g w w' := by
  have H2 := h.c2
  have H3 := h.c3
  have C := Lib.hid (cWU_any g lim 0 L N (by omega) w h)
  have hd : decide (0 ≤ (N : Int)) = true := decide_eq_true (by omega)
  have hN2 : (N : Int) < 9223372036854775808 := by omega
  generalize wAddE lim 0 L (putL N) = E at C
  generalize wAddL lim 0 L (putL N) = M at C
  clear h hN
  go_enter Try.func102, Try.ntmps102
  go_wp2_with fail
  refine (cstate_any g 0 _ H2 H3).mono ?_
  rintro r w1 ⟨rfl, rfl⟩
  go_wp2_with fail
  refine C.out.mono ?_
  rintro r w2 ⟨rfl, hw2, hb2⟩
  have W2 := Lib.hid (And.intro hw2 hb2)
  clear hw2 hb2 C
  go_wp2_with fail
  go_ret
  exact ⟨rfl, W2.out.1, W2.out.2⟩
set_option maxRecDepth 100000 in
theorem cNewWriter_any (lim : Int) (h0 : 0 ≤ lim) (h1 : lim ≤ 1048576) (w : World) :
    Calls Try.prog 101 #[.int .i64 lim] w fun r w' => r = .returned (.tuple #[.pointer (some ⟨w.heap.size, 0, none⟩), .int .i64 0]) ∧ Wr w' w.heap.size lim 0 [] ∧ Ext w w' := by
  have hn : ¬ lim < 0 := by omega
  have hm : ¬ (1048576 : Int) < lim := by omega
  go_enter Try.func101, Try.ntmps101
  go_wp2
  go_ret2
  exact ⟨rfl, ⟨⟨none, 0, by simp [go_sem], World.ownsRow_nil _ _ _ _⟩, by simp [go_sem], by simp [go_sem], by simp [go_sem], by simp [go_sem], by simp [go_sem], by simp, by simp, h0, h1⟩, (by repeat (first | assumption | exact Ext.refl _ | refine Ext.drew ?_ | refine Ext.drewN ?_ _ | refine Ext.alloc ?_ _ | refine Ext.setCell ?_ (by first | omega | (simp; done) | (simp; omega)) _ | refine Ext.trans ?_ (by assumption)))⟩
set_option maxRecDepth 100000 in
theorem cClone_nil (w : World) :
    Calls Try.prog 133 #[.slice none 0 0] w fun r w' => r = .returned (.slice none 0 0) ∧ w = w' := by
  have q22 : ∀ (w : World) (a : Option Addr) (n c n' c' : Nat), (binOp .eql 56 (.slice a n c) (.slice none n' c')).run Try.prog w = .ok (.bool a.isNone) w := fun w a n c n' c' => Go.Lib.run_eql_slice_nil w _ _ a n c n' c' Try.underlying56
  go_enter Try.func133, Try.ntmps133
  go_wp2
  go_ret
  exact ⟨rfl, rfl⟩
set_option maxRecDepth 100000 in
theorem cClone_some (a : Addr) (n c : Nat) (L : List Nat) (w : World) (h : Sl w 1 (some a) n c (by_ L)) (hn : n < 1099511627776) :
    Calls Try.prog 133 #[.slice (some a) n c] w (ByRet L w) := by
  obtain ⟨i0, hi, hz0, hz1, hz2⟩ := info_parts u8_info
  have hL : L.length = n := by have := h.len; rw [by_len] at this; omega
  have HS := Lib.hid h
  have HL := Lib.hid hL
  clear h hL
  have q22 : ∀ (w : World) (a : Option Addr) (n c n' c' : Nat), (binOp .eql 56 (.slice a n c) (.slice none n' c')).run Try.prog w = .ok (.bool a.isNone) w := fun w a n c n' c' => Go.Lib.run_eql_slice_nil w _ _ a n c n' c' Try.underlying56
  go_enter Try.func133, Try.ntmps133
  go_wp2_with (at_builtin; refine wpList_append_sl (w.alloc (.cells #[] 5)) rfl _ _ 56 rfl w.heap.size 5 i0 (.int .u8 0) 1 1 Try.underlying56 hi hz0 hz1 hz2 rfl (by decide) _ 0 [] (by rfl) (own_empty w _ _) (some a) n c (by_ L) (by rfl) (HS.out.ext ((Ext.refl _).alloc _)) by_one (by omega) (by decide) (by simp) ?_; intro v1 w1 hown1 hb1; simp only [Nat.zero_add, List.nil_append] at hown1; have H := Lib.hid (show ByRet L w (.returned v1) w1 from ⟨v1, rfl, by rw [HL.out]; exact hown1, ((Ext.refl w).alloc (.cells #[] 5)).below hb1⟩); clear hown1 hb1)
  go_ret
  exact H.out
/-- bytes handed back, maybe none at all -/
theorem cClone_any (A : Option Addr) (c : Nat) (L : List Nat) (w : World) (h : Sl w 1 A L.length c (by_ L)) (hn : L.length < 1099511627776) (hnil : A = none → c = 0) :
    Calls Try.prog 133 #[.slice A L.length c] w (ByRet L w) := by
  rcases A with _ | a
  · have hc := hnil rfl
    subst hc
    have h0 : L.length = 0 := by
      rcases Nat.eq_zero_or_pos L.length with h0 | h0
      · exact h0
      · obtain ⟨_, _, hh, _⟩ := h.at_ h0; cases hh
    have hL : L = [] := List.eq_nil_of_length_eq_zero h0
    subst hL
    refine (cClone_nil w).mono ?_
    rintro e w' ⟨rfl, rfl⟩
    exact ⟨_, rfl, World.ownsRow_nil _ _ _ _, Ext.refl _⟩
  · exact cClone_some a L.length c L w h hn
/-- bytes and an error handed back -/
def ByErr (L : List Nat) (er : Int) (w : World) (e : Ending) (w' : World) : Prop := ∃ v, e = .returned (.tuple #[v, .int .i64 er]) ∧ w'.ownsRow w.heap.size 5 1 v L.length (by_ L) ∧ Ext w w'
theorem cDone_any (g : Nat) (lim e : Int) (L : List Nat) (w : World) (h : Wr w g lim e L) :
    Calls Try.prog 103 #[.pointer (some ⟨g, 0, none⟩)] w (ByErr (if e = 0 then L else []) e w) := by
  have H2 := h.c2
  have H3 := h.c3
  obtain ⟨A, c, H0, hown⟩ := h.b
  by_cases he : e = 0
  · subst he
    rw [if_pos rfl]
    have hs := Sl.own hown
    have hnil : A = none → c = 0 := by
      intro hA
      subst hA
      rcases hown.2 with ⟨h', _⟩ | ⟨g', cap, cur, h', _⟩
      · injection h'
      · injection h' with h1; cases h1
    have C := Lib.hid (cClone_any A c L w hs (by have := h.short; omega) hnil)
    clear h hown hs hnil
    go_enter Try.func103, Try.ntmps103
    go_wp2_with fail
    refine (cstate_any g 0 _ H2 H3).mono ?_
    rintro r w1 ⟨rfl, rfl⟩
    go_wp2_with fail
    refine C.out.mono ?_
    rintro r w1 ⟨v, rfl, h1, h2⟩
    have H := Lib.hid (show ByErr L 0 w (.returned (.tuple #[v, .int .i64 0])) w1 from ⟨v, rfl, h1, h2⟩)
    clear h1 h2 C
    go_wp2_with fail
    go_ret2
    exact H.out
  · rw [if_neg he]
    have hef : (e == 0) = false := beq_false_of_ne he
    have H : Hid (ByErr [] e w (.returned (.tuple #[.slice none 0 0, .int .i64 e])) w) := Lib.hid ⟨_, rfl, World.ownsRow_nil _ _ _ _, Ext.refl _⟩
    clear h hown he
    go_enter Try.func103, Try.ntmps103
    go_wp2_with fail
    refine (cstate_any g e _ H2 H3).mono ?_
    rintro r w1 ⟨rfl, rfl⟩
    go_wp2_with fail
    go_ret2
    exact H.out
end
section
open Go.RowKit
/-- the number that bytes begin with, how many bytes it has, and what is wrong -/
def numGo : List Nat → Nat → Nat → Nat × Nat × Int
  | [], _, _ => (0, 0, 6)
  | c :: l, i, acc => if (i = 9 ∧ 1 < c) ∨ (0 < i ∧ c = 0) then (0, 0, 5) else if c < 128 then (acc + c % 128 * 2 ^ (7 * i), i + 1, 0) else numGo l (i + 1) (acc + c % 128 * 2 ^ (7 * i))
theorem numGo_drop {L : List Nat} {k acc : Nat} (h : k < L.length) : numGo (L.drop k) k acc =
    if (k = 9 ∧ 1 < L.getD k 0) ∨ (0 < k ∧ L.getD k 0 = 0) then (0, 0, 5) else if L.getD k 0 < 128 then (acc + L.getD k 0 % 128 * 2 ^ (7 * k), k + 1, 0) else numGo (L.drop (k + 1)) (k + 1) (acc + L.getD k 0 % 128 * 2 ^ (7 * k)) := by
  rw [List.drop_eq_getElem_cons h, numGo, List.getD_eq_getElem?_getD, List.getElem?_eq_getElem h]
  rfl
theorem and_all : ∀ r : Fin 256, bits .and .u8 (r.1 : Int) 127 = ((r.1 % 128 : Nat) : Int) := by decide +kernel
theorem and_byte (c : Nat) (h : c < 256) : bits .and .u8 (c : Int) 127 = ((c % 128 : Nat) : Int) := and_all ⟨c, h⟩
theorem pow7_le {k : Nat} (h : k ≤ 9) : 2 ^ (7 * k) ≤ 9223372036854775808 := Nat.le_trans (Nat.pow_le_pow_right (by decide) (show 7 * k ≤ 63 by omega)) (by decide)
theorem acc_step {acc c k : Nat} (ha : acc < 2 ^ (7 * k)) (hc : c < 128) : acc + c * 2 ^ (7 * k) < 2 ^ (7 * (k + 1)) := by
  have e : 2 ^ (7 * (k + 1)) = 2 ^ (7 * k) * 128 := by rw [show 7 * (k + 1) = 7 * k + 7 from by omega, Nat.pow_add]
  rw [e]
  have : c * 2 ^ (7 * k) ≤ 127 * 2 ^ (7 * k) := Nat.mul_le_mul_right _ (by omega)
  omega
theorem acc_small {acc c k : Nat} (ha : acc < 2 ^ (7 * k)) (hk : k ≤ 9) (hc : c < 128) (h9 : k = 9 → c ≤ 1) : c * 2 ^ (7 * k) < 18446744073709551616 ∧ acc + c * 2 ^ (7 * k) < 18446744073709551616 := by
  have hp := pow7_le hk
  rcases Nat.lt_or_ge k 9 with h | h
  · have h1 := acc_step ha hc
    have h2 := pow7_le (k := k + 1) (by omega)
    omega
  · obtain rfl : k = 9 := by omega
    have h1 := h9 rfl
    have h2 : c * 2 ^ (7 * 9) ≤ 1 * 2 ^ (7 * 9) := Nat.mul_le_mul_right _ h1
    omega
theorem or_acc {acc c k : Nat} (ha : acc < 2 ^ (7 * k)) (h1 : acc < 18446744073709551616) (h2 : c * 2 ^ (7 * k) < 18446744073709551616) : bits .or .u64 (acc : Int) ((c * 2 ^ (7 * k) : Nat) : Int) = ((acc + c * 2 ^ (7 * k) : Nat) : Int) := by
  rw [bits_or_u64_nat _ _ h1 h2]
  congr 1
  have := Nat.two_pow_add_eq_or_of_lt ha c
  rw [Nat.or_comm, Nat.mul_comm c, ← this]
  omega
theorem num_val {acc c k : Nat} (ha : acc < 2 ^ (7 * k)) (h : c % 128 * 2 ^ (7 * k) < 18446744073709551616 ∧ acc + c % 128 * 2 ^ (7 * k) < 18446744073709551616) :
    bits .or .u64 (acc : Int) (IntKind.u64.wrap ((c : Int) % 128 * 2 ^ (7 * k))) = ((acc + c % 128 * 2 ^ (7 * k) : Nat) : Int) := by
  have e : ((c : Int) % 128 * 2 ^ (7 * k)) = ((c % 128 * 2 ^ (7 * k) : Nat) : Int) := by simp
  rw [e, show IntKind.u64.wrap ((c % 128 * 2 ^ (7 * k) : Nat) : Int) = ((c % 128 * 2 ^ (7 * k) : Nat) : Int) from by rw [IntKind.wrap_u64]; omega]
  exact or_acc ha (by omega) h.1
theorem ret3 {k l m : IntKind} {a b c a' b' c' : Int} (h1 : a = a') (h2 : b = b') (h3 : c = c') : Ending.returned (.tuple #[.int k a, .int l b, .int m c]) = .returned (.tuple #[.int k a', .int l b', .int m c']) := by rw [h1, h2, h3]
/-- the bytes are bytes -/
def Byt (L : List Nat) : Prop := ∀ x ∈ L, x < 256
theorem Byt.get {L : List Nat} (h : Byt L) (k : Nat) : L.getD k 0 < 256 := by
  rw [List.getD_eq_getElem?_getD]
  rcases Nat.lt_or_ge k L.length with hk | hk
  · rw [List.getElem?_eq_getElem hk]; exact h _ (List.getElem_mem hk)
  · rw [List.getElem?_eq_none hk]; decide
theorem by_get (L : List Nat) (j : Nat) (h : j < L.length) : (by_ L)[j]? = some (.int .u8 ((L.getD j 0 : Nat) : Int)) := by
  unfold by_
  rw [List.getElem?_map, List.getD_eq_getElem?_getD, List.getElem?_eq_getElem h]
  rfl
set_option maxRecDepth 100000 in
set_option maxHeartbeats 1000000 in
theorem cnumber_any (A : Option Addr) (n c : Nat) (L : List Nat) (w : World) (h : Sl w 1 A n c (by_ L)) (hB : Byt L) :
    Calls Try.prog 136 #[.slice A n c] w fun r w' => r = .returned (.tuple #[.int .u64 ((numGo L 0 0).1 : Int), .int .i64 ((numGo L 0 0).2.1 : Int), .int .i64 (numGo L 0 0).2.2]) ∧ w = w' := by
  have hs := h.small
  have hL : L.length = n := by have := h.len; rw [by_len] at this; omega
  obtain ⟨V, hV⟩ : ∃ V, V = numGo L 0 0 := ⟨_, rfl⟩
  rw [← hV]
  have HV := Lib.hid hV
  have HL := Lib.hid hL
  have HS := Lib.hid h
  have HB := Lib.hid hB
  clear hV hL h hB
  go_enter Try.func136, Try.ntmps136
  go_wp2
  go_loopg [5, 10] n (fun g a i wx => g ≤ n ∧ n - g ≤ 9 ∧ ∃ acc : Nat, Hid (V = numGo (L.drop (n - g)) (n - g) acc ∧ acc < 2 ^ (7 * (n - g))) ∧ acc < 18446744073709551616 ∧ a = .int .u64 (acc : Int) ∧ i = .int .i64 ((n - g : Nat) : Int) ∧ wx = w)
  case atStart => exact ⟨Nat.le_refl _, by omega, 0, ⟨by rw [Nat.sub_self]; exact HV.out, by rw [Nat.sub_self]; decide⟩, by decide, rfl, by simp, rfl⟩
  case round =>
    obtain ⟨hg, hg9, acc, H, ha, rfl, hi, rfl⟩ := hrel
    obtain ⟨k, hk⟩ : ∃ k, k = n - gk := ⟨_, rfl⟩
    rw [← hk] at H hi hg9
    subst hi
    by_cases hz : gk = 0
    · have hkn : ¬ (k : Int) < n := by omega
      have e : V = (0, 0, 6) := by
        rw [H.out.1, List.drop_eq_nil_of_le (by have := HL.out; omega)]; rfl
      subst e
      clear H hz hg hk hg9
      go_wp2
      exact bodyPost_ret (by simp [results, Try.results136, go_sem]; try rfl) rfl ⟨rfl, rfl⟩
    · have hkn : (k : Int) < n := by omega
      obtain ⟨b, o, rfl, hb, hc⟩ := HS.out.at_ (show 0 < n from by omega)
      have hkl : k < L.length := by have := HL.out; omega
      have hc1 := hc k _ (by_get L k hkl)
      have hx := numGo_drop (L := L) (k := k) (acc := acc) hkl
      have hcb := HB.out.get k
      obtain ⟨c, hcc⟩ : ∃ c, c = L.getD k 0 := ⟨_, rfl⟩
      rw [← hcc] at hc1 hx hcb
      rw [← H.out.1] at hx
      have HX := Lib.hid hx
      have HK := Lib.hid (And.intro hk (And.intro hg hz))
      clear hx hcc hc hk hg hz
      have hcI : (0 : Int) ≤ (c : Int) := by omega
      have hcJ : (c : Int) < 256 := by omega
      have hk0 : (0 : Int) ≤ (k : Int) := by omega
      have hk9 : (k : Int) ≤ 9 := by omega
      by_cases hA : k = 9 ∧ 1 < c
      · have e : V = (0, 0, 5) := by rw [HX.out, if_pos (.inl hA)]
        subst e
        have p1 : ((k : Int) == 9) = true := by simp [hA.1]
        have p2 : decide (1 < (c : Int)) = true := decide_eq_true (by omega)
        clear hA H HX
        go_wp2
        exact bodyPost_ret (by simp [results, Try.results136, go_sem]; try rfl) rfl ⟨rfl, rfl⟩
      · by_cases hB : 0 < k ∧ c = 0
        · have e : V = (0, 0, 5) := by rw [HX.out, if_pos (.inr hB)]
          subst e
          have p3 : decide (0 < (k : Int)) = true := decide_eq_true (by omega)
          have q3 : decide (0 < k) = true := decide_eq_true (by omega)
          have hc2 : wr.cell? ⟨b, o + k, none⟩ = some (.int .u8 0) := by rw [hc1, hB.2]; rfl
          clear hA hB H HX hc1 hcI hcJ hcb
          by_cases p : k = 9
          · have p1 : ((k : Int) == 9) = true := by simp [p]
            clear p
            go_wp2
            exact bodyPost_ret (by simp [results, Try.results136, go_sem]; try rfl) rfl ⟨rfl, rfl⟩
          · have p1 : ((k : Int) == 9) = false := by simp; omega
            clear p
            go_wp2
            exact bodyPost_ret (by simp [results, Try.results136, go_sem]; try rfl) rfl ⟨rfl, rfl⟩
        · have hx := HX.out
          rw [if_neg (by omega)] at hx
          have hsm := acc_small (c := c % 128) H.out.2 hg9 (by omega) (by omega)
          have HA := Lib.hid H.out.2
          have HSM := Lib.hid hsm
          have HX2 := Lib.hid hx
          have e1 := and_byte c hcb
          have hc7 : ((c % 128 : Nat) : Int) < 128 := by omega
          have H9 := Lib.hid (show k = 9 → c < 128 from fun hh => by omega)
          have hcases : k = 0 ∨ (¬ k = 9 ∧ 0 < k ∧ ¬ c = 0) ∨ (k = 9 ∧ c = 1) := by omega
          clear hA hB H HX hx hsm
          rcases hcases with hk1 | ⟨hk1, hk2, hc3⟩ | ⟨hk1, hc3⟩
          · have p1 : ((k : Int) == 9) = false := by simp; omega
            have p3 : decide (0 < (k : Int)) = false := by simp; omega
            have q3 : decide (0 < k) = false := by simp; omega
            clear hk1
            by_cases h8 : (c : Int) < 128
            · have hv := HX2.out
              rw [if_pos (by omega)] at hv
              replace hv := Lib.hid hv
              go_wp2
              refine bodyPost_ret (v := .tuple #[.int .u64 (bits .or .u64 (acc : Int) (IntKind.u64.wrap ((c : Int) % 128 * 2 ^ (7 * k)))), .int .i64 ((k : Int) + 1), .int .i64 0]) (by simp [results, Try.results136, go_sem]; try rfl) rfl ⟨ret3 ?_ ?_ ?_, rfl⟩
              · rw [hv.out]; exact num_val HA.out HSM.out
              · rw [hv.out]; simp
              · rw [hv.out]
            · have hv := HX2.out
              rw [if_neg (by omega)] at hv
              replace hv := Lib.hid hv
              go_wp2
              go_roundg (gk - 1)
              case measure => have := HK.out; omega
              case rel =>
                have e2 : n - (gk - 1) = k + 1 := by have := HK.out; omega
                have h9 : ¬ k = 9 := by intro hh; have := H9.out hh; omega
                exact ⟨by have := HK.out; omega, by omega, acc + c % 128 * 2 ^ (7 * k), by rw [e2]; exact Lib.hid ⟨hv.out, acc_step HA.out (by omega)⟩, HSM.out.2, num_eq (num_val HA.out HSM.out), num_eq (by rw [e2]; simp), rfl⟩
          · have p1 : ((k : Int) == 9) = false := by simp; omega
            have p3 : decide (0 < (k : Int)) = true := by simp; omega
            have q3 : decide (0 < k) = true := by simp; omega
            have p4 : ((c : Int) == 0) = false := by simp; omega
            clear hk1 hc3
            by_cases h8 : (c : Int) < 128
            · have hv := HX2.out
              rw [if_pos (by omega)] at hv
              replace hv := Lib.hid hv
              go_wp2
              refine bodyPost_ret (v := .tuple #[.int .u64 (bits .or .u64 (acc : Int) (IntKind.u64.wrap ((c : Int) % 128 * 2 ^ (7 * k)))), .int .i64 ((k : Int) + 1), .int .i64 0]) (by simp [results, Try.results136, go_sem]; try rfl) rfl ⟨ret3 ?_ ?_ ?_, rfl⟩
              · rw [hv.out]; exact num_val HA.out HSM.out
              · rw [hv.out]; simp
              · rw [hv.out]
            · have hv := HX2.out
              rw [if_neg (by omega)] at hv
              replace hv := Lib.hid hv
              go_wp2
              go_roundg (gk - 1)
              case measure => have := HK.out; omega
              case rel =>
                have e2 : n - (gk - 1) = k + 1 := by have := HK.out; omega
                have h9 : ¬ k = 9 := by intro hh; have := H9.out hh; omega
                exact ⟨by have := HK.out; omega, by omega, acc + c % 128 * 2 ^ (7 * k), by rw [e2]; exact Lib.hid ⟨hv.out, acc_step HA.out (by omega)⟩, HSM.out.2, num_eq (num_val HA.out HSM.out), num_eq (by rw [e2]; simp), rfl⟩
          · have p1 : ((k : Int) == 9) = true := by simp; omega
            have p2 : decide (1 < (c : Int)) = false := by simp; omega
            have q2 : decide (1 < c) = false := by simp; omega
            have p3 : decide (0 < (k : Int)) = true := by simp; omega
            have q3 : decide (0 < k) = true := by simp; omega
            have p4 : ((c : Int) == 0) = false := by simp; omega
            clear hk1 hc3
            by_cases h8 : (c : Int) < 128
            · have hv := HX2.out
              rw [if_pos (by omega)] at hv
              replace hv := Lib.hid hv
              go_wp2
              refine bodyPost_ret (v := .tuple #[.int .u64 (bits .or .u64 (acc : Int) (IntKind.u64.wrap ((c : Int) % 128 * 2 ^ (7 * k)))), .int .i64 ((k : Int) + 1), .int .i64 0]) (by simp [results, Try.results136, go_sem]; try rfl) rfl ⟨ret3 ?_ ?_ ?_, rfl⟩
              · rw [hv.out]; exact num_val HA.out HSM.out
              · rw [hv.out]; simp
              · rw [hv.out]
            · have hv := HX2.out
              rw [if_neg (by omega)] at hv
              replace hv := Lib.hid hv
              go_wp2
              go_roundg (gk - 1)
              case measure => have := HK.out; omega
              case rel =>
                have e2 : n - (gk - 1) = k + 1 := by have := HK.out; omega
                have h9 : ¬ k = 9 := by intro hh; have := H9.out hh; omega
                exact ⟨by have := HK.out; omega, by omega, acc + c % 128 * 2 ^ (7 * k), by rw [e2]; exact Lib.hid ⟨hv.out, acc_step HA.out (by omega)⟩, HSM.out.2, num_eq (num_val HA.out HSM.out), num_eq (by rw [e2]; simp), rfl⟩
end
section
open Go.RowKit
theorem cell_lt {w : World} {b o : Nat} {v : Value} (h : w.cell? ⟨b, o, none⟩ = some v) : b < w.heap.size := by
  by_cases hb : b < w.heap.size
  · exact hb
  · simp [World.cell?, Array.getElem?_eq_none (show w.heap.size ≤ b from by omega)] at h
theorem Ext.has {a b : World} (h : Ext a b) {k o : Nat} {v : Value} (hc : a.cell? ⟨k, o, none⟩ = some v) : b.cell? ⟨k, o, none⟩ = some v := (h.cells.1 k o (cell_lt hc)).trans hc
theorem Ext.froz {a b : World} (h : Ext a b) {k o : Nat} {v : Value} (hc : a.cell? ⟨k, o, none⟩ = some v) (hf : a.frozen? ⟨k, o, none⟩ = false) : b.frozen? ⟨k, o, none⟩ = false := (h.cells.2 k o (cell_lt hc)).trans hf
/-- of what was there only the blocks in S may have turned -/
structure But (S : Nat → Prop) (w w' : World) : Prop where
  os : w'.os = w.os
  tape : w'.tape = w.tape
  output : w'.output = w.output
  size : w.heap.size ≤ w'.heap.size
  block : ∀ k, k < w.heap.size → ¬ S k → w'.heap[k]? = w.heap[k]?
section
variable {S : Nat → Prop} {a b c w w' : World}
theorem But.refl (S : Nat → Prop) (w : World) : But S w w := ⟨rfl, rfl, rfl, Nat.le_refl _, fun _ _ _ => rfl⟩
theorem But.trans (h : But S a b) (k : But S b c) : But S a c :=
  ⟨k.os.trans h.os, k.tape.trans h.tape, k.output.trans h.output, Nat.le_trans h.size k.size, fun i hi hs => (k.block i (by have := h.size; omega) hs).trans (h.block i hi hs)⟩
theorem But.ofExt (h : Ext a b) : But S a b := ⟨h.os, h.tape, h.output, Ext.size h, fun k hk _ => Below.block h k hk⟩
theorem But.mono {S' : Nat → Prop} (h : But S a b) (hs : ∀ k, k < a.heap.size → S k → S' k) : But S' a b := ⟨h.os, h.tape, h.output, h.size, fun k hk hn => h.block k hk (fun hk' => hn (hs k hk hk'))⟩
theorem But.setCell (h : But S a b) {p : Addr} (hp : S p.block) (u : Value) : But S a (b.setCell p u) :=
  h.trans ⟨rfl, rfl, rfl, by simp [World.setCell], fun k _ hn => Below.heap_setCell _ _ _ _ (fun e => hn (e ▸ hp))⟩
theorem But.alloc (h : But S a b) (o : Obj) : But S a (b.alloc o) := h.trans (But.ofExt ((Ext.refl _).alloc o))
theorem But.drewN (h : But S a b) (n : Nat) : But S a (b.drewN n) := ⟨h.os, h.tape, h.output, h.size, h.block⟩
theorem But.below {B : Nat} (h : But S a b) (hB : B ≤ a.heap.size) (hs : ∀ k, k < B → ¬ S k) : Below B a b := ⟨h.os, h.tape, h.output, h.size, fun k hk => h.block k (by omega) (hs k hk)⟩
theorem But.cell (h : But S a b) {k o : Nat} (hk : k < a.heap.size) (hs : ¬ S k) : b.cell? ⟨k, o, none⟩ = a.cell? ⟨k, o, none⟩ := World.cell?_of_block (w := a) (a := ⟨k, o, none⟩) (h.block k hk hs)
theorem But.frozen (h : But S a b) {k o : Nat} (hk : k < a.heap.size) (hs : ¬ S k) : b.frozen? ⟨k, o, none⟩ = a.frozen? ⟨k, o, none⟩ := World.frozen?_of_block (w := a) (a := ⟨k, o, none⟩) (h.block k hk hs)
theorem But.has (h : But S a b) {k o : Nat} {v : Value} (hs : ¬ S k) (hc : a.cell? ⟨k, o, none⟩ = some v) : b.cell? ⟨k, o, none⟩ = some v := (h.cell (cell_lt hc) hs).trans hc
theorem But.froz (h : But S a b) {k o : Nat} {v : Value} (hs : ¬ S k) (hc : a.cell? ⟨k, o, none⟩ = some v) (hf : a.frozen? ⟨k, o, none⟩ = false) : b.frozen? ⟨k, o, none⟩ = false := (h.frozen (cell_lt hc) hs).trans hf
end
theorem heap_set_type {w : World} {p : Addr} {v : Value} {cs : Array Value} {t : TypeId} {z : Nat × Nat} (h : w.heap[p.block]? = some (.cells cs t z)) : ∃ cs', (w.setCell p v).heap[p.block]? = some (.cells cs' t z) := by
  simp only [World.setCell, Array.getElem?_modify, if_pos, h, Option.map_some]
  exact ⟨_, rfl⟩
theorem But.setNew {S : Nat → Prop} {a b : World} (h : But S a b) {p : Addr} (hp : a.heap.size ≤ p.block) (u : Value) : But S a (b.setCell p u) :=
  ⟨h.os, h.tape, h.output, by have := h.size; simpa using this, fun k hk hs => (Below.heap_setCell _ _ _ _ (by omega)).trans (h.block k hk hs)⟩
theorem But.drew {S : Nat → Prop} {a b : World} (h : But S a b) : But S a b.drew := ⟨h.os, h.tape, h.output, h.size, h.block⟩
theorem But.setG {g o : Nat} {a b : World} (h : But (· = g) a b) (u : Value) : But (· = g) a (b.setCell ⟨g, o, none⟩ u) := h.setCell (p := ⟨g, o, none⟩) rfl u
end
section
open Go.RowKit
/-- a fault's cells -/
def FltAt (w : World) (g : Nat) (v : Value) : Option (Int × Int) → Prop
  | none => v = .pointer none
  | some (e, a) => ∃ fb, v = .pointer (some ⟨fb, 0, none⟩) ∧ (g < fb ∧ fb < w.heap.size) ∧ w.cell? ⟨fb, 0, none⟩ = some (.int .i64 e) ∧ w.cell? ⟨fb, 1, none⟩ = some (.int .i64 a) ∧ ∃ cs z, w.heap[fb]? = some (.cells cs 69 z)
/-- a reader lies at block g: its bytes (below g), its place, its fault -/
structure Rd (w : World) (g : Nat) (L : List Nat) (k : Nat) (flt : Option (Int × Int)) : Prop where
  b : ∃ A c, w.cell? ⟨g, 0, none⟩ = some (.slice A L.length c) ∧ Sl w 1 A L.length c (by_ L) ∧ ∀ b o s, A = some ⟨b, o, s⟩ → b < g
  c1 : w.cell? ⟨g, 1, none⟩ = some (.int .i64 (k : Int))
  c2 : w.cell? ⟨g, 2, none⟩ = some (.bool true)
  c3 : ∃ v, w.cell? ⟨g, 3, none⟩ = some v ∧ FltAt w g v flt
  f1 : w.frozen? ⟨g, 1, none⟩ = false
  f3 : w.frozen? ⟨g, 3, none⟩ = false
  lt : g < w.heap.size
  le : k ≤ L.length
  byt : Byt L
theorem FltAt.keep {w w' : World} {g : Nat} {v : Value} {flt : Option (Int × Int)} (h : FltAt w g v flt) (hb : Below w.heap.size w w') : FltAt w' g v flt := by
  match flt, h with
  | none, h => exact h
  | some (e, a), ⟨fb, h1, h2, h3, h4, cs, z, h5⟩ => exact ⟨fb, h1, ⟨h2.1, by have := hb.size; omega⟩, (hb.cell (p := ⟨fb, 0, none⟩) h2.2).trans h3, (hb.cell (p := ⟨fb, 1, none⟩) h2.2).trans h4, cs, z, (hb.block fb h2.2).trans h5⟩
theorem Rd.keep {w w' : World} {g k : Nat} {L : List Nat} {flt : Option (Int × Int)} (h : Rd w g L k flt) (hb : Below w.heap.size w w') : Rd w' g L k flt := by
  obtain ⟨A, c, h0, h1, h2⟩ := h.b
  obtain ⟨v, h3, h4⟩ := h.c3
  have cl : ∀ o, w'.cell? ⟨g, o, none⟩ = w.cell? ⟨g, o, none⟩ := fun o => hb.cell (p := ⟨g, o, none⟩) h.lt
  have fl : ∀ o, w'.frozen? ⟨g, o, none⟩ = w.frozen? ⟨g, o, none⟩ := fun o => hb.frozen (p := ⟨g, o, none⟩) h.lt
  exact ⟨⟨A, c, (cl 0).trans h0, h1.ext hb, h2⟩, (cl 1).trans h.c1, (cl 2).trans h.c2, ⟨v, (cl 3).trans h3, h4.keep hb⟩, (fl 1).trans h.f1, (fl 3).trans h.f3, by have := h.lt; have := hb.size; omega, h.le, h.byt⟩
theorem Rd.drewN {w : World} {g k : Nat} {L : List Nat} {flt : Option (Int × Int)} (h : Rd w g L k flt) (n : Nat) : Rd (w.drewN n) g L k flt := h.keep (below_drewN (Below.refl _ _) n)
theorem cell_set_other {w : World} {g o b o' : Nat} {v : Value} (h : b ≠ g ∨ o' ≠ o) : (w.setCell ⟨g, o, none⟩ v).cell? ⟨b, o', none⟩ = w.cell? ⟨b, o', none⟩ :=
  World.cell?_setCell_other _ _ _ _ (by intro e; simp at e; omega)
theorem Sl.setOther {w : World} {sz n c g o : Nat} {A : Option Addr} {xs : List Value} {v : Value} (h : Sl w sz A n c xs) (hg : ∀ b o s, A = some ⟨b, o, s⟩ → b < g) : Sl (w.setCell ⟨g, o, none⟩ v) sz A n c xs :=
  ⟨h.1, h.2.1, h.2.2.1, fun hn => by
    obtain ⟨b, o', e, hb, hc⟩ := h.2.2.2 hn
    have := hg _ _ _ e
    exact ⟨b, o', e, by simpa using hb, fun j u hu => (cell_set_other (.inl (by omega))).trans (hc j u hu)⟩⟩
theorem cnone_any (g : Nat) (w : World) (h2 : w.cell? ⟨g, 2, none⟩ = some (.bool true)) :
    Calls Try.prog 137 #[.pointer (some ⟨g, 0, none⟩)] w fun r w' => r = .returned (.bool false) ∧ w = w' := by
  go_enter Try.func137, Try.ntmps137
  go_wp2
  go_ret
  exact ⟨rfl, rfl⟩
/-- a reader's fault behind a Fail -/
def failF (flt : Option (Int × Int)) (e a : Int) : Option (Int × Int) := match flt with | some x => some x | none => if e = 0 then none else some (e, a)
theorem cFail_old (g k : Nat) (L : List Nat) (x : Int × Int) (e a : Int) (w : World) (h : Rd w g L k (some x)) :
    Calls Try.prog 114 #[.pointer (some ⟨g, 0, none⟩), .int .i64 e, .int .i64 a] w fun r w' => (∃ v, r = .returned v) ∧ w = w' := by
  have H2 := h.c2
  obtain ⟨v, H3, fb, rfl, _⟩ := h.c3
  clear h
  go_enter Try.func114, Try.ntmps114
  go_wp2_with fail
  refine (cnone_any g _ H2).mono ?_
  rintro r w1 ⟨rfl, rfl⟩
  go_wp2
  go_end0
  exact ⟨⟨_, rfl⟩, rfl⟩
theorem cFail_zero (g k : Nat) (L : List Nat) (a : Int) (w : World) (h : Rd w g L k none) :
    Calls Try.prog 114 #[.pointer (some ⟨g, 0, none⟩), .int .i64 0, .int .i64 a] w fun r w' => (∃ v, r = .returned v) ∧ w = w' := by
  have H2 := h.c2
  obtain ⟨v, H3, rfl⟩ := h.c3
  clear h
  go_enter Try.func114, Try.ntmps114
  go_wp2_with fail
  refine (cnone_any g _ H2).mono ?_
  rintro r w1 ⟨rfl, rfl⟩
  go_wp2
  go_end0
  exact ⟨⟨_, rfl⟩, rfl⟩
theorem cFail_new (g k : Nat) (L : List Nat) (e a : Int) (he : ¬ e = 0) (w : World) (h : Rd w g L k none) :
    Calls Try.prog 114 #[.pointer (some ⟨g, 0, none⟩), .int .i64 e, .int .i64 a] w fun r w' => (∃ v, r = .returned v) ∧ Rd w' g L k (some (e, a)) ∧ But (· = g) w w' := by
  have H2 := h.c2
  obtain ⟨v, H3, rfl⟩ := h.c3
  have F3 := h.f3
  have lt := h.lt
  have HH := Lib.hid h
  have h1 : (e != 0) = true := by simpa using he
  have h2 : (e == 0) = false := by simpa using he
  clear h he
  go_enter Try.func114, Try.ntmps114
  go_wp2_with fail
  refine (cnone_any g _ H2).mono ?_
  rintro r w1 ⟨rfl, rfl⟩
  go_wp2
  go_end0
  have hh := HH.out
  obtain ⟨A, c, q0, q1, q2⟩ := hh.b
  have hb := (Below.refl (w.setCell ⟨g, 3, none⟩ (.pointer (some ⟨w.heap.size, 0, none⟩))).heap.size (w.setCell ⟨g, 3, none⟩ (.pointer (some ⟨w.heap.size, 0, none⟩)))).alloc (Nat.le_refl _) (.cells #[.int .i64 e, .int .i64 a] 69)
  have hz : (w.setCell ⟨g, 3, none⟩ (.pointer (some ⟨w.heap.size, 0, none⟩))).heap.size = w.heap.size := by simp
  have cl : ∀ o, _ = (w.setCell ⟨g, 3, none⟩ (.pointer (some ⟨w.heap.size, 0, none⟩))).cell? ⟨g, o, none⟩ := fun o => hb.cell (p := ⟨g, o, none⟩) (by rw [hz]; exact lt)
  have fl : ∀ o, _ = (w.setCell ⟨g, 3, none⟩ (.pointer (some ⟨w.heap.size, 0, none⟩))).frozen? ⟨g, o, none⟩ := fun o => hb.frozen (p := ⟨g, o, none⟩) (by rw [hz]; exact lt)
  refine ⟨⟨_, rfl⟩, ⟨⟨A, c, (cl 0).trans ((cell_set_other (.inr (by decide))).trans q0), (q1.setOther q2).ext hb, q2⟩, (cl 1).trans ((cell_set_other (.inr (by decide))).trans hh.c1), (cl 2).trans ((cell_set_other (.inr (by decide))).trans hh.c2), ⟨_, (cl 3).trans (World.cell?_setCell_same' _ _ _ (by rw [H3]; rfl)), w.heap.size, rfl, ⟨lt, by simp⟩, ?_, ?_, ?_⟩, (fl 1).trans (by rw [World.frozen?_setCell]; exact hh.f1), (fl 3).trans (by rw [World.frozen?_setCell]; exact hh.f3), by simp; omega, hh.le, hh.byt⟩, ((But.refl (· = g) w).setCell (p := ⟨g, 3, none⟩) (show g = g from rfl) _).alloc _⟩
  · simp [go_sem]
  · simp [go_sem]
  · exact ⟨_, _, by have := World.alloc_heap_new (w.setCell ⟨g, 3, none⟩ (.pointer (some ⟨w.heap.size, 0, none⟩))) (.cells #[.int .i64 e, .int .i64 a] 69); rwa [hz] at this⟩
theorem cFail_any (g k : Nat) (L : List Nat) (flt : Option (Int × Int)) (e a : Int) (w : World) (h : Rd w g L k flt) :
    Calls Try.prog 114 #[.pointer (some ⟨g, 0, none⟩), .int .i64 e, .int .i64 a] w fun r w' => (∃ v, r = .returned v) ∧ Rd w' g L k (failF flt e a) ∧ But (· = g) w w' := by
  rcases flt with _ | x
  · by_cases he : e = 0
    · subst he
      refine (cFail_zero g k L a w h).mono ?_
      rintro r w' ⟨h1, rfl⟩
      exact ⟨h1, h, But.refl _ _⟩
    · have e1 : failF none e a = some (e, a) := if_neg he
      rw [e1]
      exact cFail_new g k L e a he w h
  · refine (cFail_old g k L x e a w h).mono ?_
    rintro r w' ⟨h1, rfl⟩
    exact ⟨h1, h, But.refl _ _⟩
theorem cNewReader_any (A : Option Addr) (c : Nat) (L : List Nat) (hB : Byt L) (w : World) (h : Sl w 1 A L.length c (by_ L)) (hn : L.length < 1099511627776) (hnil : A = none → c = 0) :
    Calls Try.prog 111 #[.slice A L.length c] w fun r w' => ∃ g, r = .returned (.pointer (some ⟨g, 0, none⟩)) ∧ w.heap.size ≤ g ∧ Rd w' g L 0 none ∧ Ext w w' := by
  have C := Lib.hid (cClone_any A c L w h hn hnil)
  have HB := Lib.hid hB
  clear h hnil hB
  go_enter Try.func111, Try.ntmps111
  go_wp2_with fail
  refine C.out.mono ?_
  rintro r w1 ⟨v, rfl, h1, h2⟩
  obtain ⟨A1, c1, rfl, s1⟩ := own_parts h1
  have hlt : ∀ b o s, A1 = some ⟨b, o, s⟩ → b < w1.heap.size := by
    intro b o s e
    subst e
    exact h1.lt b rfl |>.2
  have H := Lib.hid (And.intro h1 (And.intro h2 (And.intro s1 hlt)))
  clear h1 h2 C s1 hlt
  go_wp2_with fail
  go_ret
  obtain ⟨h1, h2, s1, hlt⟩ := H.out
  have hz := h2.size
  exact ⟨w1.heap.size, rfl, hz, ⟨⟨A1, c1, by simp [go_sem], s1.ext ((Ext.refl _).alloc _), hlt⟩, by simp [go_sem], by simp [go_sem], ⟨_, by simp [go_sem], rfl⟩, by simp [go_sem], by simp [go_sem], by simp, Nat.zero_le _, HB.out⟩, h2.alloc _⟩
theorem wrap64_eq (n : Int) : wrap64 n = IntKind.i64.wrap n := by
  rw [IntKind.wrap_i64]
  unfold wrap64
  rfl
/-- a number within bounds -/
def bndE (e n least most : Int) : Int := if e = 0 then (if most < n ∨ (0 < least ∧ n < least) then 3 else 0) else e
set_option maxHeartbeats 1000000 in
theorem cRN1_any (A : Option Addr) (m c : Nat) (V : Value) (n k e : Int) (n0 : 0 ≤ n) (n1 : n < 18446744073709551616) (mb lb : Nat) (least most : Int) (h0 : 0 ≤ least) (h1 : least ≤ 9223372036854775807) (h2 : 0 ≤ most) (h3 : most ≤ 9223372036854775807) (w : World)
    (C : Hid (Calls Try.prog 136 #[.slice A m c] w fun r w' => r = .returned (.tuple #[.int .u64 n, .int .i64 k, .int .i64 e]) ∧ w = w')) (cm : w.cell? ⟨mb, 0, none⟩ = some (.int .i64 most)) (cl : w.cell? ⟨lb, 0, none⟩ = some (.int .i64 least)) :
    Calls Try.prog 135 #[.slice A m c, .pointer (some ⟨mb, 0, none⟩), .pointer (some ⟨lb, 0, none⟩)] w fun r w' => r = .returned (.tuple #[.int .i64 (IntKind.i64.wrap n), .int .i64 k, .int .i64 (bndE e n least most)]) ∧ w = w' := by
  unfold bndE
  by_cases he : e = 0
  · subst he
    rw [if_pos rfl]
    have hmf : decide (most < 0) = false := decide_eq_false (by omega)
    by_cases hm : most < n
    · rw [if_pos (.inl hm)]
      go_enter Try.func135, Try.ntmps135
      go_wp2_with fail
      refine C.out.mono ?_
      rintro r w1 ⟨rfl, rfl⟩
      go_wp2
      exact bodyPost_ret (v := .tuple #[.int .i64 (IntKind.i64.wrap n), .int .i64 k, .int .i64 3]) (by simp [results, Try.results135, go_sem]; first | rfl | exact wrap64_eq n | exact (IntWalk.i64_in n (by omega)).symm) rfl ⟨rfl, rfl⟩
    · by_cases hl : 0 < least
      · by_cases hn : n < least
        · rw [if_pos (.inr ⟨hl, hn⟩)]
          go_enter Try.func135, Try.ntmps135
          go_wp2_with fail
          refine C.out.mono ?_
          rintro r w1 ⟨rfl, rfl⟩
          go_wp2
          exact bodyPost_ret (v := .tuple #[.int .i64 (IntKind.i64.wrap n), .int .i64 k, .int .i64 3]) (by simp [results, Try.results135, go_sem]; first | rfl | exact wrap64_eq n | exact (IntWalk.i64_in n (by omega)).symm) rfl ⟨rfl, rfl⟩
        · rw [if_neg (by omega)]
          go_enter Try.func135, Try.ntmps135
          go_wp2_with fail
          refine C.out.mono ?_
          rintro r w1 ⟨rfl, rfl⟩
          go_wp2
          exact bodyPost_ret (v := .tuple #[.int .i64 (IntKind.i64.wrap n), .int .i64 k, .int .i64 0]) (by simp [results, Try.results135, go_sem]; first | rfl | exact wrap64_eq n | exact (IntWalk.i64_in n (by omega)).symm) rfl ⟨rfl, rfl⟩
      · rw [if_neg (by omega)]
        go_enter Try.func135, Try.ntmps135
        go_wp2_with fail
        refine C.out.mono ?_
        rintro r w1 ⟨rfl, rfl⟩
        go_wp2
        exact bodyPost_ret (v := .tuple #[.int .i64 (IntKind.i64.wrap n), .int .i64 k, .int .i64 0]) (by simp [results, Try.results135, go_sem]; first | rfl | exact wrap64_eq n | exact (IntWalk.i64_in n (by omega)).symm) rfl ⟨rfl, rfl⟩
  · rw [if_neg he]
    have hef : (e == 0) = false := beq_false_of_ne he
    go_enter Try.func135, Try.ntmps135
    go_wp2_with fail
    refine C.out.mono ?_
    rintro r w1 ⟨rfl, rfl⟩
    go_wp2
    exact bodyPost_ret (v := .tuple #[.int .i64 (IntKind.i64.wrap n), .int .i64 k, .int .i64 e]) (by simp [results, Try.results135, go_sem]; first | rfl | exact wrap64_eq n | exact (IntWalk.i64_in n (by omega)).symm) rfl ⟨rfl, rfl⟩
theorem sizeOf_u8 (w : World) : (sizeOf (Try.prog.elem 56)).run Try.prog w = .ok 1 w := by
  obtain ⟨i0, hi, hz0, hz1, hz2⟩ := info_parts u8_info
  have e : Try.prog.elem 56 = 5 := by kernel_rfl
  rw [e]
  simp [sizeOf, typeInfo, hi, hz1]
theorem Rd.setAt {w : World} {g k : Nat} {L : List Nat} {flt : Option (Int × Int)} (h : Rd w g L k flt) (j : Nat) (hj : j ≤ L.length) : Rd (w.setCell ⟨g, 1, none⟩ (.int .i64 (j : Int))) g L j flt := by
  obtain ⟨A, c, h0, h1, h2⟩ := h.b
  obtain ⟨v, h3, h4⟩ := h.c3
  have c1 := h.c1
  refine ⟨⟨A, c, (cell_set_other (.inr (by decide))).trans h0, h1.setOther h2, h2⟩, World.cell?_setCell_same' _ _ _ (by rw [c1]; rfl), (cell_set_other (.inr (by decide))).trans h.c2, ⟨v, (cell_set_other (.inr (by decide))).trans h3, ?_⟩, by rw [World.frozen?_setCell]; exact h.f1, by rw [World.frozen?_setCell]; exact h.f3, by simpa using h.lt, hj, h.byt⟩
  match flt, h4 with
  | none, h4 => exact h4
  | some (e, a), ⟨fb, k1, k2, k3, k4, cs, z, k5⟩ => exact ⟨fb, k1, ⟨k2.1, by simpa using k2.2⟩, (cell_set_other (.inl (by omega))).trans k3, (cell_set_other (.inl (by omega))).trans k4, cs, z, (Below.heap_setCell _ _ _ _ (by simp; omega)).trans k5⟩
/-- a store into a block that is none of the reader's -/
theorem Rd.setOther {w : World} {g k : Nat} {L : List Nat} {flt : Option (Int × Int)} (h : Rd w g L k flt) {b o : Nat} {v : Value} (hg : g < b) (ht : ∃ cs t z, w.heap[b]? = some (.cells cs t z) ∧ t ≠ 69) : Rd (w.setCell ⟨b, o, none⟩ v) g L k flt := by
  obtain ⟨A, c, h0, h1, h2⟩ := h.b
  obtain ⟨v3, h3, h4⟩ := h.c3
  have ne : ∀ o', g ≠ b ∨ o' ≠ o := fun _ => .inl (by omega)
  refine ⟨⟨A, c, (cell_set_other (ne _)).trans h0, h1.setOther (fun b' o' s e => by have := h2 b' o' s e; omega), h2⟩, (cell_set_other (ne _)).trans h.c1, (cell_set_other (ne _)).trans h.c2, ⟨v3, (cell_set_other (ne _)).trans h3, ?_⟩, by rw [World.frozen?_setCell]; exact h.f1, by rw [World.frozen?_setCell]; exact h.f3, by simpa using h.lt, h.le, h.byt⟩
  match flt, h4 with
  | none, h4 => exact h4
  | some (e, a), ⟨fb, k1, k2, k3, k4, cs, z, k5⟩ =>
    have hne : fb ≠ b := by
      intro hh
      subst hh
      obtain ⟨cs', t', z', k6, k7⟩ := ht
      rw [k5] at k6
      injection k6 with k6
      injection k6 with _ k8
      exact k7 k8.symm
    exact ⟨fb, k1, ⟨k2.1, by simpa using k2.2⟩, (cell_set_other (.inl hne)).trans k3, (cell_set_other (.inl hne)).trans k4, cs, z, (Below.heap_setCell _ _ _ _ (by simpa using hne)).trans k5⟩
theorem by_drop (L : List Nat) (k : Nat) : (by_ L).drop k = by_ (L.drop k) := by unfold by_; rw [List.map_drop]
theorem Byt.drop {L : List Nat} (h : Byt L) (k : Nat) : Byt (L.drop k) := fun x hx => h x (List.mem_of_mem_drop hx)
theorem Sl.bdrop {w : World} {A : Option Addr} {n c k : Nat} {L : List Nat} (h : Sl w 1 A n c (by_ L)) (hk : k ≤ n) : Sl w 1 (if c = k then A else A.map (·.add (k * 1))) (n - k) (c - k) (by_ (L.drop k)) := by
  have := h.drop hk
  rw [Nat.mul_one, by_drop] at this
  simpa using this
theorem numGo_lt : ∀ (l : List Nat) (i acc : Nat), i ≤ 9 → acc < 2 ^ (7 * i) → (numGo l i acc).1 < 18446744073709551616 ∧ (numGo l i acc).2.1 ≤ i + l.length ∧ 0 ≤ (numGo l i acc).2.2 ∧ (numGo l i acc).2.2 ≤ 6
  | [], i, acc, _, _ => by simp [numGo]
  | c :: l, i, acc, hi, ha => by
    rw [numGo]
    split
    · simp
    · rename_i hn
      have hs := acc_small (c := c % 128) ha hi (by omega) (by omega)
      split
      · exact ⟨hs.2, by first | (simp; done) | (simp; omega), by simp, by simp⟩
      · have h := numGo_lt l (i + 1) (acc + c % 128 * 2 ^ (7 * i)) (by omega) (acc_step ha (by omega))
        exact ⟨h.1, by have := h.2.1; simp; omega, h.2.2⟩
/-- what a read leaves -/
def RdP (g : Nat) (L : List Nat) (W : World) (v : Int) (k : Nat) (flt : Option (Int × Int)) (r : Ending) (w' : World) : Prop := r = .returned (.int .i64 v) ∧ Rd w' g L k flt ∧ But (· = g) W w'
theorem creadI_old (g k : Nat) (L : List Nat) (x : Int × Int) (v : Value) (w : World) (h : Rd w g L k (some x)) :
    Calls Try.prog 134 #[.pointer (some ⟨g, 0, none⟩), v] w fun r w' => r = .returned (.int .i64 0) ∧ w = w' := by
  have H2 := h.c2
  obtain ⟨v, H3, fb, rfl, _⟩ := h.c3
  clear h
  go_enter Try.func134, Try.ntmps134
  go_wp2_with fail
  refine (cnone_any g _ H2).mono ?_
  rintro r w1 ⟨rfl, rfl⟩
  go_wp2
  go_ret
  exact ⟨rfl, rfl⟩
set_option maxRecDepth 100000 in
set_option maxHeartbeats 1000000 in
theorem creadI_go (g k : Nat) (L : List Nat) (n kk e : Int) (mb lb : Nat) (W : World) (h : Rd W g L k none) (hle : 0 ≤ kk) (hk2 : (k : Int) + kk ≤ L.length) (hL : L.length < 1099511627776)
    (CN : Hid (∀ (A : Option Addr) (c : Nat) (w : World), Sl w 1 A (L.length - k) c (by_ (L.drop k)) → (∀ b, w.cell? b = W.cell? b) → Calls Try.prog 135 #[.slice A (L.length - k) c, .pointer (some ⟨mb, 0, none⟩), .pointer (some ⟨lb, 0, none⟩)] w fun r w' => r = .returned (.tuple #[.int .i64 n, .int .i64 kk, .int .i64 e]) ∧ w = w')) :
    Calls Try.prog 134 #[.pointer (some ⟨g, 0, none⟩), .func (.func 135) #[] #[.pointer (some ⟨mb, 0, none⟩), .pointer (some ⟨lb, 0, none⟩)]] W fun r w' => r = .returned (.int .i64 (if e = 0 then n else 0)) ∧ Rd w' g L (if e = 0 then k + kk.toNat else k) (failF none e k) ∧ But (· = g) W w' := by
  have H2 := h.c2
  have H1 := h.c1
  obtain ⟨v, H3, rfl⟩ := h.c3
  obtain ⟨A, c, H0, hs, _⟩ := h.b
  have hkl := h.le
  have hd := Lib.hid (hs.bdrop hkl)
  have F1 := h.f1
  have HH := Lib.hid h
  have hsm := hs.small
  have hcs : L.length ≤ c := hs.2.1
  clear h hs
  generalize hN : L.length = N at *
  replace hN := Lib.hid hN
  obtain ⟨A2, hA2⟩ : ∃ A2, A2 = (if c = k then A else A.map (·.add (k * 1))) := ⟨_, rfl⟩
  rw [← hA2] at hd
  have hsl : ∀ w, (Instr.slice 56 (.slice A N c) (some (.int .i64 (k : Int))) none none).run Try.prog w = .ok (.slice A2 (N - k) (c - k)) w := by
    intro w
    have hq := run_slice_l (P := Try.prog) (w := w) 56 A N c (by kernel_rfl) .i64 (k : Int) (by omega) (by omega)
    rw [hq, hA2]
    simp [go_sem, sizeOf_u8 w]
  replace hA2 := Lib.hid hA2
  have hkI : (k : Int) ≤ N := by omega
  by_cases he : e = 0
  · subst he
    rw [if_pos rfl, if_pos rfl]
    show Calls _ _ _ _ (RdP g L W n (k + kk.toNat) none)
    go_enter Try.func134, Try.ntmps134
    go_wp2_with fail
    refine (cnone_any g _ H2).mono ?_
    rintro r w1 ⟨rfl, rfl⟩
    go_wp2_with fail
    go_quiet ((go_at_call 135; exact Calls.quiet_of_same ((CN.out A2 (c - k) _ (hd.out.ext ((Ext.refl _).drewN _)) (fun _ => rfl)).mono fun r w' h => ⟨h.1, h.2.symm⟩)))
    have hkk : (k : Int) + kk < 9223372036854775808 := by omega
    go_wp2
    go_ret
    refine ⟨rfl, ?_, ((But.refl (· = g) W).drewN nq).setCell (p := ⟨g, 1, none⟩) (show g = g from rfl) _⟩
    have hh := (HH.out.drewN nq).setAt (k + kk.toNat) (by rw [hN.out]; omega)
    rw [show ((k + kk.toNat : Nat) : Int) = (k : Int) + kk from by omega] at hh
    exact hh
  · have hef : (e == 0) = false := beq_false_of_ne he
    rw [if_neg he, if_neg he]
    show Calls _ _ _ _ (RdP g L W 0 k (failF none e k))
    go_enter Try.func134, Try.ntmps134
    go_wp2_with fail
    refine (cnone_any g _ H2).mono ?_
    rintro r w1 ⟨rfl, rfl⟩
    go_wp2_with fail
    go_quiet ((go_at_call 135; exact Calls.quiet_of_same ((CN.out A2 (c - k) _ (hd.out.ext ((Ext.refl _).drewN _)) (fun _ => rfl)).mono fun r w' h => ⟨h.1, h.2.symm⟩)))
    have CF := Lib.hid (cFail_any g k L none e k _ (HH.out.drewN nq))
    clear he
    go_wp2_with fail
    refine CF.out.mono ?_
    rintro r w1 ⟨⟨v, rfl⟩, hr, hb⟩
    have HR := Lib.hid (And.intro hr hb)
    clear hr hb CF
    go_wp2_with fail
    go_ret
    exact ⟨rfl, HR.out.1, ((But.refl _ W).drewN nq).trans HR.out.2⟩
/-- what 'N' reads: the number, the place behind it, the fault -/
def rnE (L : List Nat) (k : Nat) (least most : Int) : Int := bndE (numGo (L.drop k) 0 0).2.2 ((numGo (L.drop k) 0 0).1 : Int) least most
def rnV (L : List Nat) (k : Nat) (flt : Option (Int × Int)) (least most : Int) : Int := if flt = none ∧ rnE L k least most = 0 then ((numGo (L.drop k) 0 0).1 : Int) else 0
def rnK (L : List Nat) (k : Nat) (flt : Option (Int × Int)) (least most : Int) : Nat := if flt = none ∧ rnE L k least most = 0 then k + (numGo (L.drop k) 0 0).2.1 else k
def rnF (L : List Nat) (k : Nat) (flt : Option (Int × Int)) (least most : Int) : Option (Int × Int) := if flt = none then failF none (rnE L k least most) k else flt
theorem rnE_zero {L : List Nat} {k : Nat} {least most : Int} (h : rnE L k least most = 0) : (numGo (L.drop k) 0 0).2.2 = 0 ∧ ((numGo (L.drop k) 0 0).1 : Int) ≤ most := by
  unfold rnE bndE at h
  split at h
  · rename_i h0
    split at h
    · omega
    · exact ⟨h0, by omega⟩
  · contradiction
theorem cRN_any (g k : Nat) (L : List Nat) (flt : Option (Int × Int)) (least most : Int) (h0 : 0 ≤ least) (h1 : least ≤ 9223372036854775807) (h2 : 0 ≤ most) (h3 : most ≤ 9223372036854775807) (hL : L.length < 1099511627776) (w : World) (h : Rd w g L k flt) :
    Calls Try.prog 112 #[.pointer (some ⟨g, 0, none⟩), .int .i64 least, .int .i64 most] w (RdP g L w (rnV L k flt least most) (rnK L k flt least most) (rnF L k flt least most)) := by
  have hmf : ∀ (fn : Fn) (first cap : Array Value) (w : World), (Instr.makeFunc fn first cap).run Try.prog w = .ok (.func fn first cap) w := fun _ _ _ _ => rfl
  have hb : Below w.heap.size w ((w.alloc (.cells #[.int .i64 least] 3)).alloc (.cells #[.int .i64 most] 3)) := ((Below.refl _ w).alloc (Nat.le_refl _) _).alloc (by simp) _
  have hr := h.keep hb
  have hbg : But (· = g) w ((w.alloc (.cells #[.int .i64 least] 3)).alloc (.cells #[.int .i64 most] 3)) := But.ofExt hb
  have main : Calls Try.prog 134 #[.pointer (some ⟨g, 0, none⟩), .func (.func 135) #[] #[.pointer (some ⟨w.heap.size + 1, 0, none⟩), .pointer (some ⟨w.heap.size, 0, none⟩)]] ((w.alloc (.cells #[.int .i64 least] 3)).alloc (.cells #[.int .i64 most] 3)) (RdP g L w (rnV L k flt least most) (rnK L k flt least most) (rnF L k flt least most)) := by
    rcases flt with _ | x
    · have hn := numGo_lt (L.drop k) 0 0 (by decide) (by decide)
      have hc := @cnumber_any
      have hkl := h.le
      have hlen : (L.drop k).length = L.length - k := List.length_drop ..
      have C := creadI_go g k L (IntKind.i64.wrap ((numGo (L.drop k) 0 0).1 : Int)) ((numGo (L.drop k) 0 0).2.1 : Int) (rnE L k least most) (w.heap.size + 1) w.heap.size _ hr (by omega) (by have := hn.2.1; omega) hL
        (Lib.hid fun A c w' hs hcell => by
          have hq : (L.length - k) = (L.drop k).length := hlen.symm
          refine cRN1_any A _ c (.bool true) _ _ _ (by omega) (by omega) (w.heap.size + 1) w.heap.size least most h0 h1 h2 h3 w' (Lib.hid ?_) ?_ ?_
          · exact cnumber_any A (L.length - k) c (L.drop k) w' hs (h.byt.drop k)
          · rw [hcell]; simp [go_sem]
          · rw [hcell]; simp [go_sem])
      refine C.mono ?_
      rintro r w' ⟨hr1, hr2, hr3⟩
      have hb3 := hbg.trans hr3
      by_cases he : rnE L k least most = 0
      · obtain ⟨z1, z2⟩ := rnE_zero he
        rw [if_pos he] at hr1 hr2
        rw [IntWalk.i64_in _ (by omega)] at hr1
        rw [he] at hr2
        refine ⟨?_, ?_, hb3⟩
        · rw [hr1]; unfold rnV; rw [if_pos ⟨rfl, he⟩]
        · unfold rnK rnF; rw [if_pos ⟨rfl, he⟩, if_pos rfl, he]; simpa using hr2
      · rw [if_neg he] at hr1 hr2
        refine ⟨?_, ?_, hb3⟩
        · rw [hr1]; unfold rnV; rw [if_neg (fun hh => he hh.2)]
        · unfold rnK rnF; rw [if_neg (fun hh => he hh.2), if_pos rfl]; exact hr2
    · refine (creadI_old g k L x _ _ hr).mono ?_
      rintro r w' ⟨rfl, rfl⟩
      refine ⟨?_, ?_, hbg⟩
      · unfold rnV; rw [if_neg (fun hh => by cases hh.1)]
      · unfold rnK rnF; rw [if_neg (fun hh => by cases hh.1), if_neg (fun hh => by cases hh)]; exact hr
  replace main := Lib.hid main
  clear h hb hr hbg
  go_enter Try.func112, Try.ntmps112
  go_wp2_with fail
  refine main.out.mono ?_
  rintro r w1 ⟨rfl, hr1, hr2⟩
  have H := Lib.hid (show RdP g L w (rnV L k flt least most) (rnK L k flt least most) (rnF L k flt least most) (.returned (.int .i64 (rnV L k flt least most))) w1 from ⟨rfl, hr1, hr2⟩)
  clear hr1 hr2 main
  go_wp2_with fail
  go_ret
  exact H.out
def atF (flt : Option (Int × Int)) (k : Nat) : Int := match flt with | some x => x.2 | none => k
theorem cAt_any (g k : Nat) (L : List Nat) (flt : Option (Int × Int)) (w : World) (h : Rd w g L k flt) :
    Calls Try.prog 113 #[.pointer (some ⟨g, 0, none⟩)] w fun r w' => r = .returned (.int .i64 (atF flt k)) ∧ w = w' := by
  have H2 := h.c2
  have H1 := h.c1
  obtain ⟨v, H3, hv⟩ := h.c3
  clear h
  rcases flt with _ | ⟨e, a⟩
  · obtain rfl := hv
    go_enter Try.func113, Try.ntmps113
    go_wp2_with fail
    refine (cnone_any g _ H2).mono ?_
    rintro r w1 ⟨rfl, rfl⟩
    go_wp2
    go_ret
    exact ⟨rfl, rfl⟩
  · obtain ⟨fb, rfl, _, K0, K1, _⟩ := hv
    go_enter Try.func113, Try.ntmps113
    go_wp2_with fail
    refine (cnone_any g _ H2).mono ?_
    rintro r w1 ⟨rfl, rfl⟩
    go_wp2
    go_ret
    exact ⟨rfl, rfl⟩
def endF (flt : Option (Int × Int)) (k n : Nat) : Int × Int := match flt with | some x => x | none => if k < n then (4, k) else (0, 0)
theorem cEnd_any (g k : Nat) (L : List Nat) (flt : Option (Int × Int)) (w : World) (h : Rd w g L k flt) (hL : L.length < 1099511627776) :
    Calls Try.prog 115 #[.pointer (some ⟨g, 0, none⟩)] w fun r w' => r = .returned (.agg #[.int .i64 (endF flt k L.length).1, .int .i64 (endF flt k L.length).2]) ∧ Ext w w' := by
  have hb := (Below.refl w.heap.size w).alloc (Nat.le_refl _) (.cells #[.int .i64 0, .int .i64 0] 69)
  have h' := h.keep hb
  have H2 := h'.c2
  have H1 := h'.c1
  obtain ⟨A, c, H0, _⟩ := h'.b
  obtain ⟨v, H3, hv⟩ := h'.c3
  have hle := h.le
  clear h h' hb
  generalize L.length = N at *
  rcases flt with _ | ⟨e, a⟩
  · obtain rfl := hv
    by_cases hk : k < N
    · rw [show endF none k N = (4, (k : Int)) from if_pos hk]
      have hd : decide (k < N) = true := decide_eq_true hk
      have hd2 : decide ((k : Int) < (N : Int)) = true := decide_eq_true (by omega)
      go_enter Try.func115, Try.ntmps115
      go_wp2_with fail
      refine (cnone_any g _ H2).mono ?_
      rintro r w1 ⟨rfl, rfl⟩
      go_wp2_with fail
      go_quiet (fail)
      go_wp2
      refine bodyPost_ret (v := .agg #[.int .i64 4, .int .i64 (k : Int)]) (by simp [results, Try.results115, go_sem]; try rfl) rfl ⟨rfl, ?_⟩
      exact (by repeat (first | assumption | exact Ext.refl _ | refine Ext.drew ?_ | refine Ext.drewN ?_ _ | refine Ext.alloc ?_ _ | refine Ext.setCell ?_ (by first | omega | (simp; done) | (simp; omega)) _ | refine Ext.trans ?_ (by assumption)))
    · rw [show endF none k N = (0, 0) from if_neg hk]
      have hd : decide (k < N) = false := decide_eq_false hk
      have hd2 : decide ((k : Int) < (N : Int)) = false := decide_eq_false (by omega)
      go_enter Try.func115, Try.ntmps115
      go_wp2_with fail
      refine (cnone_any g _ H2).mono ?_
      rintro r w1 ⟨rfl, rfl⟩
      go_wp2_with fail
      go_quiet (fail)
      go_wp2
      refine bodyPost_ret (v := .agg #[.int .i64 0, .int .i64 0]) (by simp [results, Try.results115, go_sem]; try rfl) rfl ⟨rfl, ?_⟩
      exact (by repeat (first | assumption | exact Ext.refl _ | refine Ext.drew ?_ | refine Ext.drewN ?_ _ | refine Ext.alloc ?_ _ | refine Ext.setCell ?_ (by first | omega | (simp; done) | (simp; omega)) _ | refine Ext.trans ?_ (by assumption)))
  · obtain ⟨fb, rfl, _, K0, K1, _⟩ := hv
    go_enter Try.func115, Try.ntmps115
    go_wp2_with fail
    refine (cnone_any g _ H2).mono ?_
    rintro r w1 ⟨rfl, rfl⟩
    go_wp2
    refine bodyPost_ret (v := .agg #[.int .i64 e, .int .i64 a]) (by simp [results, Try.results115, go_sem]; try rfl) rfl ⟨rfl, ?_⟩
    exact (by repeat (first | assumption | exact Ext.refl _ | refine Ext.drew ?_ | refine Ext.drewN ?_ _ | refine Ext.alloc ?_ _ | refine Ext.setCell ?_ (by first | omega | (simp; done) | (simp; omega)) _ | refine Ext.trans ?_ (by assumption)))
end
section
open Go.RowKit
theorem pow7_succ (i : Nat) : 2 ^ (7 * (i + 1)) = 128 * 2 ^ (7 * i) := by
  rw [show 7 * (i + 1) = 7 + 7 * i from by omega, Nat.pow_add]
theorem pow7_pos (i : Nat) : 0 < 2 ^ (7 * i) := Nat.pow_pos (by decide)
theorem numGo_putL : ∀ (b m i acc : Nat) (rest : List Nat), m ≤ b → (0 < i → 0 < m) → i ≤ 9 → m * 2 ^ (7 * i) < 18446744073709551616 →
    numGo (putL m ++ rest) i acc = (acc + m * 2 ^ (7 * i), i + (putL m).length, 0) := by
  intro b
  induction b with
  | zero =>
    intro m i acc rest hb hi h9 hm
    obtain rfl : m = 0 := by omega
    have hi0 : i = 0 := by omega
    subst hi0
    rw [putL_lt (by decide)]
    simp [numGo]
  | succ b ih =>
    intro m i acc rest hb hi h9 hm
    by_cases h : m < 128
    · rw [putL_lt h, List.singleton_append, numGo, if_neg, if_pos h, Nat.mod_eq_of_lt h]
      · rfl
      · intro hh
        rcases hh with ⟨rfl, h1⟩ | ⟨h1, h2⟩
        · have : 2 * 2 ^ (7 * 9) ≤ m * 2 ^ (7 * 9) := Nat.mul_le_mul_right _ h1
          omega
        · have := hi h1; omega
    · have hp := pow7_succ i
      have hq := pow7_pos i
      have hd : (m / 128) * 2 ^ (7 * (i + 1)) ≤ m * 2 ^ (7 * i) := by
        rw [hp, ← Nat.mul_assoc]
        exact Nat.mul_le_mul_right _ (Nat.div_mul_le_self m 128)
      have hi8 : i ≤ 8 := by
        rcases Nat.lt_or_ge i 9 with g | g
        · omega
        · obtain rfl : i = 9 := by omega
          have : 128 * 2 ^ (7 * 9) ≤ m * 2 ^ (7 * 9) := Nat.mul_le_mul_right _ (by omega)
          omega
      rw [putL_ge h, List.cons_append, numGo, if_neg (by omega), if_neg (by omega), ih (m / 128) (i + 1) _ rest (by omega) (fun _ => by omega) (by omega) (by omega), List.length_cons]
      have e1 : (m % 128 + 128) % 128 = m % 128 := by omega
      rw [e1, hp]
      have e2 : m * 2 ^ (7 * i) = m % 128 * 2 ^ (7 * i) + m / 128 * (128 * 2 ^ (7 * i)) := by
        rw [← Nat.mul_assoc, ← Nat.add_mul]
        congr 1
        omega
      rw [e2, ← Nat.add_assoc, Nat.add_assoc i, Nat.add_comm 1]
theorem numGo_back : ∀ (L : List Nat) (i acc n k : Nat), Byt L → numGo L i acc = (n, k, 0) →
    ∃ m rest, L = putL m ++ rest ∧ n = acc + m * 2 ^ (7 * i) ∧ k = i + (putL m).length ∧ (0 < i → 0 < m) := by
  intro L
  induction L with
  | nil => intro i acc n k _ h; simp [numGo] at h
  | cons c l ih =>
    intro i acc n k hB h
    have hc : c < 256 := hB c (List.mem_cons_self ..)
    have hBl : Byt l := fun x hx => hB x (List.mem_cons_of_mem _ hx)
    rw [numGo] at h
    split at h
    · simp at h
    · rename_i hcond
      split at h
      · rename_i h1
        simp only [Prod.mk.injEq] at h
        obtain ⟨h2, h3, _⟩ := h
        refine ⟨c, l, by rw [putL_lt h1]; rfl, by rw [← h2, Nat.mod_eq_of_lt h1], by rw [putL_lt h1, ← h3]; rfl, fun hi => by omega⟩
      · rename_i h1
        obtain ⟨m, rest, rfl, hn, hk, hm⟩ := ih (i + 1) _ n k hBl h
        have hm0 : 0 < m := hm (by omega)
        have hge : ¬ (c - 128 + 128 * m) < 128 := by omega
        have e : putL (c - 128 + 128 * m) = c :: putL m := by
          rw [putL_ge hge]
          rw [show (c - 128 + 128 * m) % 128 + 128 = c from by omega, show (c - 128 + 128 * m) / 128 = m from by omega]
        refine ⟨c - 128 + 128 * m, rest, by rw [e]; rfl, ?_, by rw [e, List.length_cons, hk]; omega, fun _ => by omega⟩
        rw [hn, pow7_succ, show c % 128 = c - 128 from by omega, Nat.add_mul, Nat.mul_comm 128 m, Nat.mul_assoc, Nat.add_assoc]
/-- what a reader reads of bytes that were written -/
theorem rn_put {L rest : List Nat} {k m : Nat} {lo hi : Int} (hL : L.drop k = putL m ++ rest) (hm : m < 18446744073709551616) (h1 : lo ≤ m) (h2 : (m : Int) ≤ hi) :
    rnV L k none lo hi = m ∧ rnK L k none lo hi = k + (putL m).length ∧ rnF L k none lo hi = none := by
  have e := numGo_putL m m 0 0 rest (Nat.le_refl _) (fun h => absurd h (by omega)) (by omega) (by omega)
  rw [← hL] at e
  have e0 : rnE L k lo hi = 0 := by
    unfold rnE bndE
    rw [e]
    simp
    omega
  unfold rnV rnK rnF
  rw [e0, e]
  simp [failF]
/-- a number that was read stands there -/
theorem rn_back {L : List Nat} (hB : Byt L) {k : Nat} {lo hi : Int} (hlo : 0 ≤ lo) (h : rnF L k none lo hi = none) :
    ∃ m rest, L.drop k = putL m ++ rest ∧ rnV L k none lo hi = (m : Int) ∧ rnK L k none lo hi = k + (putL m).length ∧ lo ≤ m ∧ (m : Int) ≤ hi := by
  have e0 : rnE L k lo hi = 0 := by
    unfold rnF at h
    rw [if_pos rfl] at h
    unfold failF at h
    simp at h
    exact h
  have hb := e0
  unfold rnE bndE at hb
  split at hb
  · rename_i h0
    split at hb
    · omega
    · rename_i h1
      obtain ⟨n, k', e, hx⟩ : ∃ n k' e, numGo (L.drop k) 0 0 = (n, k', e) := ⟨_, _, _, rfl⟩
      rw [hx] at h0 h1
      simp at h0
      subst h0
      obtain ⟨m, rest, hL, hn, hk, _⟩ := numGo_back (L.drop k) 0 0 n k' (fun x hx => hB x (List.mem_of_mem_drop hx)) hx
      simp at hn hk
      subst hn; subst hk
      unfold rnV rnK
      rw [e0, hx]
      refine ⟨n, rest, hL, by simp, by simp, by omega, by omega⟩
  · rename_i h0
    exact absurd hb h0
/-- a fault stays, and is a fault -/
theorem rnF_some (L : List Nat) (k : Nat) (x : Int × Int) (lo hi : Int) : rnF L k (some x) lo hi = some x := by
  unfold rnF; rw [if_neg (by simp)]
theorem rnF_none {L : List Nat} {k : Nat} {f : Option (Int × Int)} {lo hi : Int} (h : rnF L k f lo hi = none) : f = none := by
  cases f with
  | none => rfl
  | some x => rw [rnF_some] at h; cases h
theorem failF_none {f : Option (Int × Int)} {e a : Int} (h : failF f e a = none) : f = none ∧ e = 0 := by
  cases f with
  | some x => simp [failF] at h
  | none => refine ⟨rfl, ?_⟩; unfold failF at h; simp at h; exact h
/-- a fault's error is none of nought -/
def FltNz (f : Option (Int × Int)) : Prop := ∀ x, f = some x → ¬ x.1 = 0
theorem FltNz.none : FltNz none := fun x h => by cases h
theorem FltNz.fail {f : Option (Int × Int)} (h : FltNz f) (e a : Int) : FltNz (failF f e a) := by
  intro x hx
  cases f with
  | some y => exact h x (by simpa [failF] using hx)
  | none =>
    unfold failF at hx
    simp at hx
    obtain ⟨h1, rfl⟩ := hx
    exact h1
theorem FltNz.rn {f : Option (Int × Int)} (h : FltNz f) (L : List Nat) (k : Nat) (lo hi : Int) : FltNz (rnF L k f lo hi) := by
  unfold rnF
  split
  · exact FltNz.none.fail _ _
  · exact h
/-- no fault, and nothing left -/
theorem endF_zero {f : Option (Int × Int)} {k n : Nat} (hz : FltNz f) (h : (endF f k n).1 = 0) : f = none ∧ n ≤ k := by
  cases f with
  | some x => exact absurd h (hz x rfl)
  | none =>
    refine ⟨rfl, ?_⟩
    unfold endF at h
    simp at h
    by_cases hk : k < n
    · simp [hk] at h
    · omega
end
section
open Go.RowKit
def fltE (f : Option (Int × Int)) : Int := match f with | some x => x.1 | none => 0
def fltA (f : Option (Int × Int)) : Int := match f with | some x => x.2 | none => 0
/-- a reference reader lies at block g: its bytes (below g), its place, its fault -/
structure RRd (w : World) (g : Nat) (L : List Nat) (k : Nat) (flt : Option (Int × Int)) : Prop where
  b : ∃ A c, w.cell? ⟨g, 0, none⟩ = some (.slice A L.length c) ∧ Sl w 1 A L.length c (by_ L) ∧ ∀ b o s, A = some ⟨b, o, s⟩ → b < g ∧ o = 0
  c1 : ∃ t : Nat, w.cell? ⟨g, 1, none⟩ = some (.int .i64 (t : Int)) ∧ t ≤ L.length ∧ (flt = none → t = k)
  c2 : w.cell? ⟨g, 2, none⟩ = some (.int .i64 (fltE flt))
  c3 : w.cell? ⟨g, 3, none⟩ = some (.int .i64 (fltA flt))
  f1 : w.frozen? ⟨g, 1, none⟩ = false
  f2 : w.frozen? ⟨g, 2, none⟩ = false
  f3 : w.frozen? ⟨g, 3, none⟩ = false
  lt : g < w.heap.size
  le : k ≤ L.length
  byt : Byt L
  nz : FltNz flt
  ty : ∃ cs z, w.heap[g]? = some (.cells cs 134 z)
theorem RRd.keep {w w' : World} {g k : Nat} {L : List Nat} {flt : Option (Int × Int)} (h : RRd w g L k flt) (hb : Below w.heap.size w w') : RRd w' g L k flt := by
  obtain ⟨A, c, h0, h1, h2⟩ := h.b
  obtain ⟨t, h3, h4, h5⟩ := h.c1
  obtain ⟨cs, z, h6⟩ := h.ty
  have cl : ∀ o, w'.cell? ⟨g, o, none⟩ = w.cell? ⟨g, o, none⟩ := fun o => hb.cell (p := ⟨g, o, none⟩) h.lt
  have fl : ∀ o, w'.frozen? ⟨g, o, none⟩ = w.frozen? ⟨g, o, none⟩ := fun o => hb.frozen (p := ⟨g, o, none⟩) h.lt
  exact ⟨⟨A, c, (cl 0).trans h0, h1.ext hb, h2⟩, ⟨t, (cl 1).trans h3, h4, h5⟩, (cl 2).trans h.c2, (cl 3).trans h.c3, (fl 1).trans h.f1, (fl 2).trans h.f2, (fl 3).trans h.f3, by have := h.lt; have := hb.size; omega, h.le, h.byt, h.nz, cs, z, (hb.block g h.lt).trans h6⟩
theorem RRd.drewN {w : World} {g k : Nat} {L : List Nat} {flt : Option (Int × Int)} (h : RRd w g L k flt) (n : Nat) : RRd (w.drewN n) g L k flt := h.keep (below_drewN (Below.refl _ _) n)
theorem RRd.ext {w w' : World} {g k : Nat} {L : List Nat} {flt : Option (Int × Int)} (h : RRd w g L k flt) (hb : Ext w w') : RRd w' g L k flt := h.keep hb
theorem heap_type_set {w : World} {p : Addr} {v : Value} {cs : Array Value} {t : TypeId} {z : Nat × Nat} {g : Nat} (h : w.heap[g]? = some (.cells cs t z)) : ∃ cs' z', (w.setCell p v).heap[g]? = some (.cells cs' t z') := by
  by_cases e : p.block = g
  · subst e
    unfold World.setCell
    simp only [Array.getElem?_modify, if_true, h, Option.map_some]
    exact ⟨_, _, rfl⟩
  · exact ⟨cs, z, by rw [Below.heap_setCell _ _ _ _ (fun h => e h.symm)]; exact h⟩
end
section
open Go.RowKit
theorem own_keep {w w' : World} {base : Nat} {e : TypeId} {sz n : Nat} {v : Value} {xs : List Value} (h : w.ownsRow base e sz v n xs) (hb : Ext w w') : w'.ownsRow base e sz v n xs := by
  refine ⟨h.1, ?_⟩
  rcases h.2 with h2 | ⟨q, cap, cur, e', hq, hq2, rest⟩
  · exact .inl h2
  · exact .inr ⟨q, cap, cur, e', hq, (Below.block hb q (Array.getElem?_eq_some_iff.1 hq2).1).trans hq2, rest⟩
/-- a reference writer lies at block g: its limit, its error, what was written (in a row beyond g) -/
structure RWr (w : World) (g : Nat) (lim err : Int) (L : List Nat) : Prop where
  b : ∃ A c, w.cell? ⟨g, 1, none⟩ = some (.slice A L.length c) ∧ w.ownsRow (g + 1) 5 1 (.slice A L.length c) L.length (by_ L)
  c0 : w.cell? ⟨g, 0, none⟩ = some (.int .i64 lim)
  c2 : w.cell? ⟨g, 2, none⟩ = some (.int .i64 err)
  f1 : w.frozen? ⟨g, 1, none⟩ = false
  f2 : w.frozen? ⟨g, 2, none⟩ = false
  lt : g < w.heap.size
  short : L.length ≤ 1048576
  l0 : 0 ≤ lim
  l1 : lim ≤ 1048576
theorem RWr.keep {w w' : World} {g : Nat} {lim err : Int} {L : List Nat} (h : RWr w g lim err L) (hb : Ext w w') : RWr w' g lim err L := by
  obtain ⟨A, c, h0, h1⟩ := h.b
  have cl : ∀ o, w'.cell? ⟨g, o, none⟩ = w.cell? ⟨g, o, none⟩ := fun o => Below.cell hb (p := ⟨g, o, none⟩) h.lt
  have fl : ∀ o, w'.frozen? ⟨g, o, none⟩ = w.frozen? ⟨g, o, none⟩ := fun o => Below.frozen hb (p := ⟨g, o, none⟩) h.lt
  have hs := hb.size
  exact ⟨⟨A, c, (cl 1).trans h0, own_keep h1 hb⟩, (cl 0).trans h.c0, (cl 2).trans h.c2, (fl 1).trans h.f1, (fl 2).trans h.f2, by have := h.lt; omega, h.short, h.l0, h.l1⟩
theorem RWr.ext {w w' : World} {g : Nat} {lim err : Int} {L : List Nat} (h : RWr w g lim err L) (hb : Ext w w') : RWr w' g lim err L := h.keep hb
end
section
open Go.RowKit Go.ChangeShapes Go.WideShapes
def bs_ (L : List Nat) : List Int := L.map fun (x : Nat) => (x : Int)
theorem bs_inj {L M : List Nat} (hL : Byt L) (hM : Byt M) (h : strOfNums (bs_ L) = strOfNums (bs_ M)) : L = M := by
  have h1 := congrArg (fun s : ByteArray => s.data.toList.map fun u => u.toNat) h
  simp only [strOfNums_data, bs_, List.map_map] at h1
  have e : ∀ K : List Nat, Byt K → K.map ((fun u : UInt8 => u.toNat) ∘ (fun n : Int => UInt8.ofNat n.toNat) ∘ fun (x : Nat) => (x : Int)) = K := by
    intro K hK
    induction K with
    | nil => rfl
    | cons x K ih =>
      have hx := hK x (List.mem_cons_self ..)
      rw [List.map_cons, ih fun y hy => hK y (List.mem_cons_of_mem _ hy)]
      simp
      omega
  rw [e L hL, e M hM] at h1
  exact h1
theorem conv_by {A : Option Addr} {n c : Nat} {L : List Nat} {w : World} (h : Sl w 1 A n c (by_ L)) :
    (convert 56 9 (.slice A n c)).run Try.prog w = .ok (.string (strOfNums (bs_ L))) w := by
  have hl : L.length = n := by simpa [by_] using h.len
  cases n with
  | zero =>
    have hL : L = [] := List.eq_nil_of_length_eq_zero hl
    subst hL
    cases A with
    | none =>
      rw [run_convert_bytes_nil w 56 5 (by kernel_rfl) (by kernel_rfl) 0 c 9 (by kernel_rfl)]
      rfl
    | some a =>
      rw [run_convert_bytes_string w 56 9 5 (some a) 0 c (by kernel_rfl) (by kernel_rfl) (by kernel_rfl), run_bytesToString w a 0 c [] (by
        have := run_loadCells_list (P := Try.prog) w a [] (fun j v hj => by simp at hj)
        simpa using this)]
      rfl
  | succ m =>
    obtain ⟨b, o, rfl, hb, hc⟩ := h.at_ (Nat.succ_pos m)
    refine run_convert_bytes_arg w 56 5 (by kernel_rfl) (by kernel_rfl) b o (m + 1) c (bs_ L) (by simpa [bs_] using hl) (fun i hi => ?_) 9 (by kernel_rfl)
    refine hc i _ ?_
    have hi' : i < L.length := by omega
    simp [by_, bs_, List.getD, hi']
theorem kSameBytes_any (A B : Option Addr) (n c m d : Nat) (L M : List Nat) (hL : Byt L) (hM : Byt M) (w : World) (h1 : Sl w 1 A n c (by_ L)) (h2 : Sl w 1 B m d (by_ M)) :
    Calls Try.prog 53 #[.slice A n c, .slice B m d] w fun r w' => r = .returned (.bool (decide (L = M))) ∧ w = w' := by
  have c1 := conv_by h1
  have c2 := conv_by h2
  have he : ((strOfNums (bs_ L)).toList == (strOfNums (bs_ M)).toList) = decide (L = M) := by
    rw [ByteArray.toList_eq, ByteArray.toList_eq]
    by_cases h : L = M
    · subst h
      simp
    · rw [decide_eq_false h]
      exact beq_false_of_ne fun e => h (bs_inj hL hM (by
        have := congrArg List.toArray e
        exact ByteArray.ext (by simpa using e)))
  go_enter Try.func53, Try.ntmps53
  go_wp2
  go_ret
  exact ⟨by simp [he], rfl⟩
theorem own_parts2 {w : World} {base : Nat} {e : TypeId} {sz n : Nat} {v : Value} {xs : List Value} (h : w.ownsRow base e sz v n xs) : ∃ A c, v = .slice A n c ∧ (A = none → c = 0) ∧ Sl w sz A n c xs := by
  rcases h.2 with ⟨rfl, rfl⟩ | ⟨g, cap, cur, rfl, rest⟩
  · exact ⟨_, _, rfl, fun _ => rfl, Sl.own h⟩
  · refine ⟨_, _, rfl, ?_, Sl.own h⟩
    intro hh
    cases hh
theorem byt_putL : ∀ (b n : Nat), n ≤ b → Byt (putL n) := by
  intro b
  induction b with
  | zero => intro n hn; rw [putL_lt (by omega)]; intro x hx; simp at hx; omega
  | succ b ih =>
    intro n hn
    by_cases h : n < 128
    · rw [putL_lt h]; intro x hx; simp at hx; omega
    · rw [putL_ge h]
      intro x hx
      rcases List.mem_cons.1 hx with rfl | hx
      · omega
      · exact ih (n / 128) (by omega) x hx
theorem kSameBytes_eq (A B : Option Addr) (n c m d : Nat) (L : List Nat) (hL : Byt L) (w : World) (h1 : Sl w 1 A n c (by_ L)) (h2 : Sl w 1 B m d (by_ L)) :
    Calls Try.prog 53 #[.slice A n c, .slice B m d] w fun r w' => r = .returned (.bool true) ∧ w = w' := by
  refine (kSameBytes_any A B n c m d L L hL hL w h1 h2).mono ?_
  rintro r w' ⟨rfl, rfl⟩
  exact ⟨by simp, rfl⟩
/-- bytes that came in -/
theorem open_bytes {H : Type} {enc : TypeId × Value → H} {w : World} {base : Nat} {spare : Nat → Bool} {held : Bool} {n c : Nat} {A : Option Addr} {d : DataW H} {p : List MemPlace}
    (h : DataW.Trod enc Try.prog w base spare held 56 (.slice A n c) d p) : ∃ M : List Nat, n = M.length ∧ Sl w 1 A M.length c (by_ M) ∧ Byt M ∧ (A = none → c = 0) := by
  have hlt : ∀ x ∈ p, x.block < w.heap.size := by obtain ⟨m, hm⟩ := h; exact DataW.trod_lt m _ _ _ hm
  obtain ⟨l, hs, hf⟩ := open_sl Try.underlying56 Try.underlying5 (by kernel_rfl) h hlt
  have hl := hs.ilen
  have hb : ∀ x ∈ l, 0 ≤ x ∧ x < 256 := fun x hx => by
    have := hf x hx
    unfold Fits at this
    have := bounds_u8 (n := x) this
    omega
  have e : by_ (l.map Int.toNat) = iv .u8 l := by
    unfold by_ iv
    rw [List.map_map]
    apply List.map_congr_left
    intro x hx
    have := hb x hx
    simp only [Function.comp]
    rw [Int.toNat_of_nonneg this.1]
  refine ⟨l.map Int.toNat, by simpa using hl.symm, ?_, ?_, ?_⟩
  · rw [e, List.length_map, hl]; exact hs
  · intro x hx
    obtain ⟨y, hy, rfl⟩ := List.mem_map.1 hx
    have := hb y hy
    omega
  · intro hA
    subst hA
    obtain ⟨fuel, hf⟩ := h
    rcases Go.Deep.open_slice Try.underlying56 (show DataW.trod enc Try.prog w base spare held fuel 56 [.slice none n c] = some _ by simpa [Value.cells] using hf) with ⟨h0, _⟩ | ⟨a, len, cap, m, n', D, Pl, hcs, _⟩
    · simp at h0; exact h0.2
    · simp at hcs
end
section
open Go.RowKit
/-- an operation that yields in every world that meets S is taken first -/
theorem take_in {P : Program} {md : Region.Mode} {l : List Oper} {Q : Exit → Act → World → Prop} {S : World → Prop} {oi : Oper} {v : Value} {fuel : Nat} {listed : Array Bool} {a : Act} {w : World} (i : Nat) (hi : l[i]? = some oi)
    (hs : Region.noSelect l.toArray = true) (hf : Region.free md l.toArray listed i = true) (hr : (Region.ready md l.toArray listed).contains i = true)
    (hQ : ∀ c a w, Q (.panic c) (a.put oi.dst v) w → Q (.panic c) a w) (hw : Region.wanted oi (yielded l.toArray a.tmps) = true) (hS : S w) (hy : ∀ w, S w → (execOp a.eval oi).run P w = .ok (.value v) w)
    (h : wpAnyH P md l.toArray Q S fuel (listed.setIfInBounds i true) (a.put oi.dst v) w) : wpAnyH P md l.toArray Q S (fuel + 1) listed a w :=
  wpAnyH_take (ops := l.toArray) (i := i) (oi := oi) (v := v) (by simpa using hi) hs hf hr hQ (Or.inl ⟨hw, hy⟩) hS h
/-- an operation that its guard leaves out is taken first -/
theorem skip_in {P : Program} {md : Region.Mode} {l : List Oper} {Q : Exit → Act → World → Prop} {S : World → Prop} {oi : Oper} {fuel : Nat} {listed : Array Bool} {a : Act} {w : World} (i : Nat) (hi : l[i]? = some oi)
    (hs : Region.noSelect l.toArray = true) (hf : Region.free md l.toArray listed i = true) (hr : (Region.ready md l.toArray listed).contains i = true)
    (hQ : ∀ c a w, Q (.panic c) (a.put oi.dst undef) w → Q (.panic c) a w) (hw : Region.wanted oi (yielded l.toArray a.tmps) = false) (hS : S w)
    (h : wpAnyH P md l.toArray Q S fuel (listed.setIfInBounds i true) (a.put oi.dst undef) w) : wpAnyH P md l.toArray Q S (fuel + 1) listed a w :=
  wpAnyH_take (ops := l.toArray) (i := i) (oi := oi) (v := undef) (by simpa using hi) hs hf hr hQ (Or.inr ⟨hw, rfl⟩) hS h
/-- the one operation that may come up next -/
theorem next_in {P : Program} {md : Region.Mode} {l : List Oper} {Q : Exit → Act → World → Prop} {S : World → Prop} {oi : Oper} {fuel : Nat} {listed : Array Bool} {a : Act} {w : World} (i : Nat) (hi : l[i]? = some oi)
    (hr : Region.ready md l.toArray listed = [i]) (hw : Region.wanted oi (yielded l.toArray a.tmps) = true)
    (h : ∀ K' : Act → World → Prop, Shut (∀ a w, S w → (S w → wpAnyH P md l.toArray Q S fuel (listed.setIfInBounds i true) a w) → K' a w) → Oper.wp P oi a w K' Q) : wpAnyH P md l.toArray Q S (fuel + 1) listed a w :=
  wpAnyH_ready hr (by simp) (AllReadyH.cons (o := oi) (by simpa using hi) (fun K' hK => by rw [if_pos hw]; exact h K' hK) AllReadyH.nil)
end
section
open Go.RowKit
theorem next2_in {P : Program} {md : Region.Mode} {l : List Oper} {Q : Exit → Act → World → Prop} {S : World → Prop} {oi oj : Oper} {fuel : Nat} {listed : Array Bool} {a : Act} {w : World} (i j : Nat) (hi : l[i]? = some oi) (hj : l[j]? = some oj)
    (hr : Region.ready md l.toArray listed = [i, j]) (hw : Region.wanted oi (yielded l.toArray a.tmps) = true) (hw2 : Region.wanted oj (yielded l.toArray a.tmps) = true)
    (h : ∀ K' : Act → World → Prop, Shut (∀ a w, S w → (S w → wpAnyH P md l.toArray Q S fuel (listed.setIfInBounds i true) a w) → K' a w) → Oper.wp P oi a w K' Q)
    (h2 : ∀ K' : Act → World → Prop, Shut (∀ a w, S w → (S w → wpAnyH P md l.toArray Q S fuel (listed.setIfInBounds j true) a w) → K' a w) → Oper.wp P oj a w K' Q) : wpAnyH P md l.toArray Q S (fuel + 1) listed a w :=
  wpAnyH_ready hr (by simp) (AllReadyH.cons (o := oi) (by simpa using hi) (fun K' hK => by rw [if_pos hw]; exact h K' hK) (AllReadyH.cons (o := oj) (by simpa using hj) (fun K' hK => by rw [if_pos hw2]; exact h2 K' hK) AllReadyH.nil))
end
section
open Go.RowKit Go.ChangeShapes Go.WideShapes Go.Deep Go.Joins
theorem flat_len {α : Type} {f : α → List Value} {sz : Nat} (hf : ∀ x, (f x).length = sz) (l : List α) : (l.flatMap f).length = l.length * sz := by
  induction l with
  | nil => simp
  | cons x l ih => rw [List.flatMap_cons, List.length_append, hf, ih, List.length_cons, Nat.add_mul, Nat.one_mul, Nat.add_comm]
theorem flat_get {α : Type} {f : α → List Value} {sz : Nat} (hf : ∀ x, (f x).length = sz) : ∀ (l : List α) (i j : Nat) (x : α), l[i]? = some x → j < sz → (l.flatMap f)[i * sz + j]? = (f x)[j]?
  | [], i, j, x, h, _ => by simp at h
  | y :: l, 0, j, x, h, hj => by
    simp at h
    subst h
    rw [List.flatMap_cons, Nat.zero_mul, Nat.zero_add, List.getElem?_append_left (by rw [hf]; exact hj)]
  | y :: l, i + 1, j, x, h, hj => by
    rw [List.flatMap_cons, Nat.add_mul, Nat.one_mul, List.getElem?_append_right (by rw [hf]; omega), hf]
    rw [show i * sz + sz + j - sz = i * sz + j from by omega]
    exact flat_get hf l i j x (by simpa using h) hj
theorem flat_take {α : Type} {f : α → List Value} {sz : Nat} (hf : ∀ x, (f x).length = sz) : ∀ (l : List α) (k : Nat), (l.flatMap f).take (k * sz) = (l.take k).flatMap f
  | [], k => by simp
  | y :: l, 0 => by simp
  | y :: l, k + 1 => by
    rw [List.flatMap_cons, Nat.add_mul, Nat.one_mul, List.take_succ_cons, List.flatMap_cons, List.take_append, hf, show k * sz + sz - sz = k * sz from by omega, flat_take hf l k, List.take_of_length_le (by rw [hf]; omega)]
section
variable {H : Type} {enc : TypeId × Value → H} {P : Program} {w : World} {base : Nat} {spare : Nat → Bool} {held : Bool}
end
/-- the cells of the elements -/
theorem Sl.rec_ {α : Type} {f : α → List Value} {sz : Nat} (hf : ∀ x, (f x).length = sz) {w : World} {A : Option Addr} {n c : Nat} {l : List α} (h : Sl w sz A n c (l.flatMap f)) (hn : 0 < n) :
    ∃ b o, A = some ⟨b, o, none⟩ ∧ b < w.heap.size ∧ ∀ i x, l[i]? = some x → ∀ j v, (f x)[j]? = some v → w.cell? ⟨b, o + (i * sz + j), none⟩ = some v := by
  obtain ⟨b, o, e, hb, hc⟩ := h.at_ hn
  refine ⟨b, o, e, hb, fun i x hx j v hv => hc _ _ ?_⟩
  rw [flat_get hf l i j x hx (by have := hf x; have := (List.getElem?_eq_some_iff.1 hv).1; omega)]
  exact hv
theorem Sl.rlen {α : Type} {f : α → List Value} {sz : Nat} (hf : ∀ x, (f x).length = sz) (hp : 0 < sz) {w : World} {A : Option Addr} {n c : Nat} {l : List α} (h : Sl w sz A n c (l.flatMap f)) : l.length = n := by
  have h1 := h.len
  rw [flat_len hf] at h1
  exact Nat.eq_of_mul_eq_mul_right hp h1
end
section
open Go.RowKit
theorem But.ofGrown {w w' : World} {row : Option Nat} (h : w.grownBy w' row) : But (fun k => row = some k) w w' :=
  ⟨h.os, h.tape, h.output, h.size, fun k hk hn => h.block k hk (fun e => hn e.symm)⟩
theorem own_lower {w : World} {base b : Nat} {e : TypeId} {sz n : Nat} {v : Value} {xs : List Value} (h : w.ownsRow base e sz v n xs) (hb : b ≤ base) : w.ownsRow b e sz v n xs := by
  refine ⟨h.1, ?_⟩
  rcases h.2 with h2 | ⟨q, cap, cur, e', hq, rest⟩
  · exact .inl h2
  · exact .inr ⟨q, cap, cur, e', Nat.le_trans hb hq, rest⟩
theorem wpList_append_slB {P : Program} (w : World) {ops : Array Oper} {rest : List Oper} {o : Oper} {a : Act} {Q : Exit → Act → World → Prop} (hgd : o.guard = none) (s x : Operand) (t : TypeId)
    (ho : o.op = .call { callee := .builtin .append, args := #[s, x], argTypes := #[t, t] })
    (base : Nat) (e : TypeId) (i : TypeInfo) (z : Value) (size bytes : Nat) (ht : P.underlying t = some (.slice e)) (hi : P.info? e = some i) (hz : i.zero = some z)
    (hsize : i.size = size) (hby : i.bytes = bytes) (hzs : z.cells.size = size) (hsz : 0 < size)
    (v : Value) (n : Nat) (xs : List Value) (hs : a.eval s = v) (hown : w.ownsRow base e size v n xs) (A : Option Addr) (m c : Nat) (news : List Value)
    (hx : a.eval x = .slice A m c) (hS : Sl w size A m c news) (h1 : ∀ u ∈ news, u.oneCell' = true)
    (hn : n + m < 1099511627776) (hb128 : bytes ≤ 127) (hbase : base ≤ w.heap.size)
    (h : ∀ v' w', w'.ownsRow base e size v' (n + m) (xs ++ news) → But (fun k => v.ownBlock = some k) w w' → (∀ k, v'.ownBlock = some k → v.ownBlock = some k ∨ w.heap.size ≤ k) → wpList P ops Q rest (a.put o.dst v') w') :
    wpList P ops Q (o :: rest) a w := by
  have hby2 : (n + m) * bytes ≤ 140737488355328 := by
    have : (n + m) * bytes ≤ 1099511627776 * 127 := Nat.mul_le_mul (by omega) hb128
    omega
  have h63 : n + m ≤ maxLen := by simp [maxLen]; omega
  rcases A with _ | ad
  · have hm : m = 0 := by
      rcases Nat.eq_zero_or_pos m with h0 | h0
      · exact h0
      · obtain ⟨_, _, hh, _⟩ := hS.at_ h0
        cases hh
    subst hm
    have hnw : news = [] := hS.drop0
    subst hnw
    have hrun := run_append_none (P := P) w base t o.type e i size ht hi v n xs hown c
    have hk := h v w (by simpa using hown) (But.refl _ _) (fun k hk => .inl hk)
    refine wpList_plain hgd fun K hK => ?_
    unfold Oper.wp execOp
    simp only [ho, resolve, invoke, builtin, Sem.run_bind, Sem.run_pure, Result.andThen_ok, List.map_toArray, List.map_cons, List.map_nil, hs, hx, hrun]
    exact hK _ _ hk
  · have hcells : ∀ j u, news[j]? = some u → w.cell? (ad.add j) = some u := by
      intro j u hu
      rcases Nat.eq_zero_or_pos m with h0 | h0
      · subst h0
        rw [hS.drop0] at hu
        simp at hu
      · obtain ⟨b, o', hh, _, hc⟩ := hS.at_ h0
        injection hh with hh
        subst hh
        rw [addr_add]
        exact hc j u hu
    have hown0 := hown
    rcases hown.2 with ⟨rfl, h0⟩ | ⟨g, cap, cur, rfl, hbg, hg, hnc, hcm, hcs, htake⟩
    · subst h0
      have hxs : xs = [] := List.eq_nil_of_length_eq_zero (by simpa using hown.1)
      subst hxs
      refine wpList_append_own w hgd s x t ho w.heap.size e i z size bytes ht hi hz hsize hby hzs hsz _ 0 [] hs (World.ownsRow_nil _ _ _ _) ad m c news hx hS.len hcells h1 h63 hby2 (Nat.le_refl _) ?_
      intro v' w' h2 h3 _
      exact h v' w' (own_lower h2 hbase) (But.ofGrown h3) (fun k hk => .inr (h2.lt k hk).1)
    · by_cases hfit : n + m ≤ cap
      · refine wpList_append_fits w hgd s x t ho base e i size ht hi hsize g n cap xs hs hown0 ad m c news hx hS.len hcells h1 hfit ?_
        intro w' h2 h3
        exact h _ w' h2 (But.ofGrown h3) (fun k hk => .inl hk)
      · refine wpList_append_grows w hgd s x t ho e i z size bytes ht hi hz hsize hby hzs hsz (some ⟨g, 0, none⟩) n cap xs hs (fun hh => by cases hh) hown.1 ?_ ad m c news hx hS.len hcells h1 (by omega) h63 hby2 ?_
        · intro b hb j u hj
          injection hb with hb
          subst hb
          exact hown0.cells rfl j u hj
        · intro v' w' h2 h3
          exact h v' w' (own_lower h2 hbase) ((But.ofGrown h3).mono fun k _ hk => by cases hk) (fun k hk => .inr (h2.lt k hk).1)
end
section
open Go.RowKit Go.ChangeShapes Go.WideShapes Go.Deep Go.Joins
/-- a record's cells -/
def hopC (x : Int × Int × Int × Int) : List Value := [.int .i64 x.1, .int .i64 x.2.1, .int .i64 x.2.2.1, .int .i64 x.2.2.2]
theorem hopC_len (x : Int × Int × Int × Int) : (hopC x).length = 4 := rfl
theorem hopC_one {l : List (Int × Int × Int × Int)} : ∀ u ∈ l.flatMap hopC, u.oneCell' = true := by
  intro u hu
  obtain ⟨x, _, hx⟩ := List.mem_flatMap.1 hu
  unfold hopC at hx
  simp at hx
  rcases hx with rfl | rfl | rfl | rfl <;> rfl
theorem hop_info : (Try.prog.info? 24).map (fun i => (i.zero, i.size, i.bytes)) = some (some (.agg #[.int .i64 0, .int .i64 0, .int .i64 0, .int .i64 0]), 4, 32) := by kernel_rfl
/-- a row of records of one's own -/
def OwnHop (w : World) (base : Nat) (v : Value) (n : Nat) (l : List (Int × Int × Int × Int)) : Prop := w.ownsRow base 24 4 v n (l.flatMap hopC)
theorem OwnHop.ext {w w' : World} {base n : Nat} {v : Value} {l : List (Int × Int × Int × Int)} (h : OwnHop w base v n l) (hx : Ext w w') : OwnHop w' base v n l := own_keep h hx
theorem OwnHop.sl {w : World} {base n c : Nat} {A : Option Addr} {l : List (Int × Int × Int × Int)} (h : OwnHop w base (.slice A n c) n l) : Sl w 4 A n c (l.flatMap hopC) := Sl.own h
theorem OwnHop.in_ {w : World} {base n c : Nat} {A : Option Addr} {l : List (Int × Int × Int × Int)} (h : OwnHop w base (.slice A n c) n l) : ∀ k o s, A = some ⟨k, o, s⟩ → base ≤ k ∧ k < w.heap.size := by
  intro k o s e'
  subst e'
  exact World.ownsRow.lt h k rfl
theorem OwnHop.nil (w : World) (base : Nat) : OwnHop w base (.slice none 0 0) 0 [] := World.ownsRow_nil _ _ _ _
/-- records handed back -/
def RetHop (l : List (Int × Int × Int × Int)) (w : World) (e : Ending) (w' : World) : Prop := ∃ A c, e = .returned (.slice A l.length c) ∧ (A = none → c = 0) ∧ OwnHop w' w.heap.size (.slice A l.length c) l.length l ∧ Ext w w'
theorem RetHop.mk {l : List (Int × Int × Int × Int)} {w w' : World} {v : Value} (h : w'.ownsRow w.heap.size 24 4 v l.length (l.flatMap hopC)) (hx : Ext w w') : RetHop l w (.returned v) w' := by
  obtain ⟨A, c, rfl, h1, h2⟩ := own_parts2 h
  exact ⟨A, c, rfl, h1, h, hx⟩
set_option maxRecDepth 100000 in
theorem hClone_any (A : Option Addr) (c : Nat) (l : List (Int × Int × Int × Int)) (w : World) (h : Sl w 4 A l.length c (l.flatMap hopC)) (hn : l.length < 1099511627776) (hnil : A = none → c = 0) :
    Calls Try.prog 93 #[.slice A l.length c] w (RetHop l w) := by
  have q22 : ∀ (w : World) (a : Option Addr) (n c n' c' : Nat), (binOp .eql 22 (.slice a n c) (.slice none n' c')).run Try.prog w = .ok (.bool a.isNone) w := fun w a n c n' c' => Go.Lib.run_eql_slice_nil w _ _ a n c n' c' Try.underlying22
  rcases A with _ | a
  · have hc := hnil rfl
    subst hc
    have h0 : l.length = 0 := by
      rcases Nat.eq_zero_or_pos l.length with h0 | h0
      · exact h0
      · obtain ⟨_, _, hh, _⟩ := h.at_ h0; cases hh
    have hL : l = [] := List.eq_nil_of_length_eq_zero h0
    subst hL
    clear h h0 hnil hn
    change Calls Try.prog 93 #[.slice none 0 0] w _
    go_enter Try.func93, Try.ntmps93
    go_wp2
    go_ret
    exact RetHop.mk (l := []) (World.ownsRow_nil _ _ _ _) (Ext.refl _)
  · obtain ⟨i0, hi, hz0, hz1, hz2⟩ := info_parts hop_info
    have HS := Lib.hid h
    clear h hnil
    generalize hL : l.length = n at *
    replace hL := Lib.hid hL
    go_enter Try.func93, Try.ntmps93
    go_wp2_with (at_builtin; refine wpList_append_sl (w.alloc (.cells #[] 24)) rfl _ _ 22 rfl w.heap.size 24 i0 (.agg #[.int .i64 0, .int .i64 0, .int .i64 0, .int .i64 0]) 4 32 Try.underlying22 hi hz0 hz1 hz2 rfl (by decide) _ 0 [] (by rfl) (own_empty w _ _) (some a) n c (l.flatMap hopC) (by rfl) (HS.out.ext ((Ext.refl _).alloc _)) hopC_one (by omega) (by decide) (by simp) ?_; intro v1 w1 hown1 hb1; simp only [Nat.zero_add, List.nil_append] at hown1; have H := Lib.hid (show RetHop l w (.returned v1) w1 from RetHop.mk (by rw [hL.out]; exact hown1) (((Ext.refl w).alloc (.cells #[] 24)).below hb1)); clear hown1 hb1)
    go_ret
    exact H.out
theorem hopC_take {l : List (Int × Int × Int × Int)} {k : Nat} {x : Int × Int × Int × Int} (h : l[k]? = some x) : l.take (k + 1) = l.take k ++ [x] := by
  obtain ⟨hk, rfl⟩ := List.getElem?_eq_some_iff.1 h
  rw [List.take_succ_eq_append_getElem hk]
theorem hopC_eq (x0 y0 x1 y1 x2 y2 x3 y3 : Int) (w : World) : (binOp .eql 24 (.agg #[.int .i64 x0, .int .i64 x1, .int .i64 x2, .int .i64 x3]) (.agg #[.int .i64 y0, .int .i64 y1, .int .i64 y2, .int .i64 y3])).run Try.prog w = .ok (.bool (x0 == y0 && x1 == y1 && x2 == y2 && x3 == y3)) w := by
  have hS : Try.prog.underlying 24 = some (.struct (Try.prog.fieldsOf 24)) := by kernel_rfl
  have hp : Try.prog.stoodInHeld 24 = false := by kernel_rfl
  rw [run_eql_struct, show (10000 : Nat) = 9999 + 1 from rfl, run_equalIn_agg w 9999 24 _ _ hS hp]
  simp only [Program.fieldsOf, Try.underlying24]
  go_simp
  by_cases h0 : x0 = y0 <;> by_cases h1 : x1 = y1 <;> by_cases h2 : x2 = y2 <;> by_cases h3 : x3 = y3 <;> simp [h0, h1, h2, h3]
theorem hopC_eqg (op : BinOp) (x y : Operand) (xs ys : Array Value) (w : World) : (eqGuard op 24 x y (.agg xs) (.agg ys)).run Try.prog w = .ok () w := run_eqGuard_agg w op 24 x y xs ys (by kernel_rfl)
set_option maxRecDepth 100000 in
set_option maxHeartbeats 2000000 in
theorem kSameHops_any (A B : Option Addr) (n c m d : Nat) (l r : List (Int × Int × Int × Int)) (w : World) (h1 : Sl w 4 A n c (l.flatMap hopC)) (h2 : Sl w 4 B m d (r.flatMap hopC)) :
    Calls Try.prog 30 #[.slice A n c, .slice B m d] w fun e w' => e = .returned (.bool (decide (l = r))) ∧ Ext w w' := by
  have hl := h1.rlen hopC_len (by decide)
  have hr := h2.rlen hopC_len (by decide)
  have s1 := h1.small
  have s2 := h2.small
  by_cases hnm : n = m
  · subst hnm
    have H1 := Lib.hid h1
    have H2 := Lib.hid h2
    have HL := Lib.hid (And.intro hl hr)
    have e0 : ((n : Int) == (n : Int)) = true := by simp
    have q1 := hopC_eq
    have q2 := hopC_eqg
    obtain ⟨bb, hbb⟩ : ∃ b, b = decide (l = r) := ⟨_, rfl⟩
    rw [← hbb]
    have HBB := Lib.hid hbb
    clear h1 h2 hl hr hbb
    go_enter Try.func30, Try.ntmps30
    go_wp2
    go_loopg [5, 6] n (fun gh q i wx => gh ≤ n ∧ i = .int .i64 ((n - gh : Nat) : Int) ∧ (∃ b : Bool, q = .bool b ∧ Hid (b = decide (l.take (n - gh) = r.take (n - gh)))) ∧ Ext w wx)
    case atStart => exact ⟨Nat.le_refl _, by simp, ⟨true, rfl, by rw [Nat.sub_self]; exact Lib.hid (by simp)⟩, Ext.refl _⟩
    case round =>
      obtain ⟨hg, hi, ⟨b, rfl, hb⟩, hx⟩ := hrel
      obtain ⟨k, hk⟩ : ∃ k, k = n - gk := ⟨_, rfl⟩
      rw [← hk] at hi hb
      subst hi
      have XR := Lib.hid hx
      cases b
      · have hne : bb = false := by
          have h := hb.out
          rw [HBB.out]
          by_cases hlr : l = r
          · subst hlr; simp at h
          · exact decide_eq_false hlr
        subst hne
        clear hx hk hg hb
        go_wp2
        go_ret
        exact ⟨rfl, XR.out⟩
      · by_cases hz : gk = 0
        · have hkn : ¬ (k : Int) < n := by omega
          have hne : bb = true := by
            have h := hb.out
            rw [HBB.out]
            rw [List.take_of_length_le (by have := HL.out; omega), List.take_of_length_le (by have := HL.out; omega)] at h
            exact h.symm
          subst hne
          clear hx hk hg hb hz
          go_wp2
          go_ret
          exact ⟨rfl, XR.out⟩
        · have hkn : (k : Int) < n := by omega
          have hk1 : k < l.length := by have := HL.out; omega
          have hk2 : k < r.length := by have := HL.out; omega
          obtain ⟨b1, o1, rfl, hb1, hc1⟩ := H1.out.rec_ hopC_len (show 0 < n from by omega)
          obtain ⟨b2, o2, rfl, hb2, hc2⟩ := H2.out.rec_ hopC_len (show 0 < n from by omega)
          have x_0 := XR.out.has (hc1 k _ (List.getElem?_eq_getElem hk1) 0 _ rfl)
          have x_1 := XR.out.has (hc1 k _ (List.getElem?_eq_getElem hk1) 1 _ rfl)
          have x_2 := XR.out.has (hc1 k _ (List.getElem?_eq_getElem hk1) 2 _ rfl)
          have x_3 := XR.out.has (hc1 k _ (List.getElem?_eq_getElem hk1) 3 _ rfl)
          have y_0 := XR.out.has (hc2 k _ (List.getElem?_eq_getElem hk2) 0 _ rfl)
          have y_1 := XR.out.has (hc2 k _ (List.getElem?_eq_getElem hk2) 1 _ rfl)
          have y_2 := XR.out.has (hc2 k _ (List.getElem?_eq_getElem hk2) 2 _ rfl)
          have y_3 := XR.out.has (hc2 k _ (List.getElem?_eq_getElem hk2) 3 _ rfl)
          have t1 := hopC_take (List.getElem?_eq_getElem hk1)
          have t2 := hopC_take (List.getElem?_eq_getElem hk2)
          obtain ⟨x, hxx⟩ : ∃ x, x = l[k] := ⟨_, rfl⟩
          obtain ⟨y, hyy⟩ : ∃ y, y = r[k] := ⟨_, rfl⟩
          rw [← hxx] at x_0 x_1 x_2 x_3 t1
          rw [← hyy] at y_0 y_1 y_2 y_3 t2
          have hstep : Hid (decide (x = y) = decide (l.take (k + 1) = r.take (k + 1))) := Lib.hid (by
            rw [t1, t2]
            have h := hb.out
            have h3 : l.take k = r.take k := by simpa using h.symm
            rw [h3]
            by_cases hxy : x = y
            · subst hxy; simp
            · rw [decide_eq_false hxy]
              exact (decide_eq_false (fun e => hxy (by simpa using e))).symm)
          obtain ⟨x0, x1, x2, x3⟩ := x
          obtain ⟨y0, y1, y2, y3⟩ := y
          simp only at x_0 y_0 x_1 y_1 x_2 y_2 x_3 y_3
          rw [Nat.add_zero] at x_0 y_0
          rw [← Nat.add_assoc] at x_1 y_1 x_2 y_2 x_3 y_3
          have HK := Lib.hid (And.intro hk (And.intro hg hz))
          clear hx hk hg hb hz hc1 hc2 t1 t2 hxx hyy hk1 hk2
          go_wp2_with fail
          refine wp_region_held_drew (S := fun w' => w'.cell? ⟨b1, o1 + k * 4, none⟩ = some (.int .i64 x0) ∧ w'.cell? ⟨b1, o1 + k * 4 + 1, none⟩ = some (.int .i64 x1) ∧ w'.cell? ⟨b1, o1 + k * 4 + 2, none⟩ = some (.int .i64 x2) ∧ w'.cell? ⟨b1, o1 + k * 4 + 3, none⟩ = some (.int .i64 x3) ∧ w'.cell? ⟨b2, o2 + k * 4, none⟩ = some (.int .i64 y0) ∧ w'.cell? ⟨b2, o2 + k * 4 + 1, none⟩ = some (.int .i64 y1) ∧ w'.cell? ⟨b2, o2 + k * 4 + 2, none⟩ = some (.int .i64 y2) ∧ w'.cell? ⟨b2, o2 + k * 4 + 3, none⟩ = some (.int .i64 y3)) (by kernel_rfl) (by first | exact ⟨x_0, x_1, x_2, x_3, y_0, y_1, y_2, y_3⟩ | (simp [go_sem, World.cell?_alloc_past, x_0, x_1, x_2, x_3, y_0, y_1, y_2, y_3]; done)) (fun hHeld => ?_)
          (refine' take_in 0 rfl (by kernel_rfl) (by kernel_rfl) (by kernel_rfl) (fun _ _ _ h => h) (by rfl) (by assumption) ?_ ?_; rotate_left; focus (intro w hSw; (try dsimp only at hSw); go_simp; try with_reducible rfl)); try simp only [Act.put, List.setIfInBounds_toArray, List.set_cons_zero, List.set_cons_succ]
          (refine' take_in 1 rfl (by kernel_rfl) (by kernel_rfl) (by kernel_rfl) (fun _ _ _ h => h) (by rfl) (by assumption) ?_ ?_; rotate_left; focus (intro w hSw; (try dsimp only at hSw); go_simp; try with_reducible rfl)); try simp only [Act.put, List.setIfInBounds_toArray, List.set_cons_zero, List.set_cons_succ]
          (refine' take_in 2 rfl (by kernel_rfl) (by kernel_rfl) (by kernel_rfl) (fun _ _ _ h => h) (by rfl) (by assumption) ?_ ?_; rotate_left; focus (intro w hSw; (try dsimp only at hSw); go_simp; try with_reducible rfl)); try simp only [Act.put, List.setIfInBounds_toArray, List.set_cons_zero, List.set_cons_succ]
          (refine' take_in 3 rfl (by kernel_rfl) (by kernel_rfl) (by kernel_rfl) (fun _ _ _ h => h) (by rfl) (by assumption) ?_ ?_; rotate_left; focus (intro w hSw; (try dsimp only at hSw); go_simp; try with_reducible rfl)); try simp only [Act.put, List.setIfInBounds_toArray, List.set_cons_zero, List.set_cons_succ]
          (refine' take_in 4 rfl (by kernel_rfl) (by kernel_rfl) (by kernel_rfl) (fun _ _ _ h => h) (by rfl) (by assumption) ?_ ?_; rotate_left; focus (intro w hSw; (try dsimp only at hSw); go_simp; try with_reducible rfl)); try simp only [Act.put, List.setIfInBounds_toArray, List.set_cons_zero, List.set_cons_succ]
          (refine' take_in 5 rfl (by kernel_rfl) (by kernel_rfl) (by kernel_rfl) (fun _ _ _ h => h) (by rfl) (by assumption) ?_ ?_; rotate_left; focus (intro w hSw; (try dsimp only at hSw); go_simp; try with_reducible rfl)); try simp only [Act.put, List.setIfInBounds_toArray, List.set_cons_zero, List.set_cons_succ]
          (refine' take_in 6 rfl (by kernel_rfl) (by kernel_rfl) (by kernel_rfl) (fun _ _ _ h => h) (by rfl) (by assumption) ?_ ?_; rotate_left; focus (intro w hSw; (try dsimp only at hSw); go_simp; try with_reducible rfl)); try simp only [Act.put, List.setIfInBounds_toArray, List.set_cons_zero, List.set_cons_succ]
          (refine' take_in 7 rfl (by kernel_rfl) (by kernel_rfl) (by kernel_rfl) (fun _ _ _ h => h) (by rfl) (by assumption) ?_ ?_; rotate_left; focus (intro w hSw; (try dsimp only at hSw); go_simp; try with_reducible rfl)); try simp only [Act.put, List.setIfInBounds_toArray, List.set_cons_zero, List.set_cons_succ]
          (refine' take_in 8 rfl (by kernel_rfl) (by kernel_rfl) (by kernel_rfl) (fun _ _ _ h => h) (by rfl) (by assumption) ?_ ?_; rotate_left; focus (intro w hSw; (try dsimp only at hSw); go_simp; try with_reducible rfl)); try simp only [Act.put, List.setIfInBounds_toArray, List.set_cons_zero, List.set_cons_succ]
          (refine' take_in 9 rfl (by kernel_rfl) (by kernel_rfl) (by kernel_rfl) (fun _ _ _ h => h) (by rfl) (by assumption) ?_ ?_; rotate_left; focus (intro w hSw; (try dsimp only at hSw); go_simp; try with_reducible rfl)); try simp only [Act.put, List.setIfInBounds_toArray, List.set_cons_zero, List.set_cons_succ]
          refine wpAnyH_done (by kernel_rfl) ?_ _
          go_wp2_with fail
          go_roundg (gk - 1)
          case measure => have := HK.out; omega
          case rel => exact ⟨by have := HK.out; omega, num_eq (by have := HK.out; omega), ⟨_, rfl, Lib.hid (by rw [show n - (gk - 1) = k + 1 from by have := HK.out; omega, ← hstep.out]; simp [Bool.and_assoc, Prod.ext_iff]; try (first | rfl | (apply Bool.eq_iff_iff.2; simp; done)))⟩, (by repeat (first | with_reducible exact XR.out | with_reducible refine Ext.drew ?_ | with_reducible refine Ext.drewN ?_ _ | with_reducible refine Ext.alloc ?_ _ | with_reducible refine Ext.setCell ?_ (by first | omega | (simp; done) | (simp; omega)) _))⟩
  · have hne : ¬ l = r := by rintro rfl; omega
    rw [decide_eq_false hne]
    have e0 : ((n : Int) == (m : Int)) = false := by simp; omega
    clear h1 h2 hl hr hne
    go_enter Try.func30, Try.ntmps30
    go_wp2
    go_loopg [5, 6] 0 (fun gh q i wx => q = .bool false ∧ i = .int .i64 0 ∧ wx = w)
    case atStart => exact ⟨rfl, rfl, rfl⟩
    case round =>
      obtain ⟨rfl, rfl, rfl⟩ := hrel
      go_wp2
      go_ret
      exact ⟨rfl, Ext.refl _⟩
end
section
open Go.RowKit
theorem RRd.set {w : World} {g k : Nat} {L : List Nat} {f : Option (Int × Int)} (h : RRd w g L k f) {b o : Nat} (hg : g < b) (v : Value) : RRd (w.setCell ⟨b, o, none⟩ v) g L k f := by
  obtain ⟨A, c, h0, h1, h2⟩ := h.b
  obtain ⟨t, h3, h4, h5⟩ := h.c1
  obtain ⟨cs, z, h6⟩ := h.ty
  obtain ⟨cs1, z1, h7⟩ := heap_type_set (p := ⟨b, o, none⟩) (v := v) h6
  have cl : ∀ q, (w.setCell ⟨b, o, none⟩ v).cell? ⟨g, q, none⟩ = w.cell? ⟨g, q, none⟩ := fun q => cell_set_other (.inl (by omega))
  have fl : ∀ q, (w.setCell ⟨b, o, none⟩ v).frozen? ⟨g, q, none⟩ = w.frozen? ⟨g, q, none⟩ := fun q => by simp
  exact ⟨⟨A, c, (cl 0).trans h0, h1.setOther fun b' o' s e => by have := (h2 b' o' s e).1; omega, h2⟩, ⟨t, (cl 1).trans h3, h4, h5⟩, (cl 2).trans h.c2, (cl 3).trans h.c3, (fl 1).trans h.f1, (fl 2).trans h.f2, (fl 3).trans h.f3, by simpa using h.lt, h.le, h.byt, h.nz, cs1, z1, h7⟩
end
section
open Go.RowKit
def SlB (B : Nat) (w : World) (sz : Nat) (A : Option Addr) (n c : Nat) (xs : List Value) : Prop := Sl w sz A n c xs ∧ (0 < n → ∀ b o s, A = some ⟨b, o, s⟩ → b < B)
section
variable {B : Nat} {S : Nat → Prop} {w w' : World} {sz n c : Nat} {A : Option Addr} {xs : List Value}
theorem SlB.sl (h : SlB B w sz A n c xs) : Sl w sz A n c xs := h.1
theorem Sl.low (h : Sl w sz A n c xs) : SlB w.heap.size w sz A n c xs := by
  refine ⟨h, fun hn b o s e => ?_⟩
  obtain ⟨b', o', e', hb, _⟩ := h.at_ hn
  rw [e] at e'
  injection e' with e'
  injection e' with e1
  omega
theorem SlB.raise (h : SlB B w sz A n c xs) : SlB w.heap.size w sz A n c xs := Sl.low h.1
theorem SlB.ext (h : SlB B w sz A n c xs) (hx : Ext w w') : SlB B w' sz A n c xs := ⟨h.1.ext hx, h.2⟩
theorem SlB.but (h : SlB B w sz A n c xs) (hx : But S w w') (hs : ∀ k, S k → B ≤ k) : SlB B w' sz A n c xs := by
  refine ⟨⟨h.1.1, h.1.2.1, h.1.2.2.1, fun hn => ?_⟩, h.2⟩
  obtain ⟨b, o, e, hb, hc⟩ := h.1.at_ hn
  have hS : ¬ S b := fun hs' => by have := hs b hs'; have := h.2 hn b o none e; omega
  exact ⟨b, o, e, by have := hx.size; omega, fun j u hu => hx.has hS (hc j u hu)⟩
end
end
section
open Go.RowKit
/-- the blocks of a writer at block g whose slice lies in its cell o -/
def Sg (w : World) (g o : Nat) (k : Nat) : Prop := k = g ∨ ∃ n c, w.cell? ⟨g, o, none⟩ = some (.slice (some ⟨k, 0, none⟩) n c)
/-- of what was there only the writer's blocks may have turned, and its blocks are the old ones, or new -/
structure WF (g o : Nat) (w w' : World) : Prop where
  but : But (Sg w g o) w w'
  row : ∀ k, k < w.heap.size → Sg w' g o k → Sg w g o k
theorem Sg.congr {w w' : World} {g o : Nat} (h : w'.cell? ⟨g, o, none⟩ = w.cell? ⟨g, o, none⟩) {k : Nat} : Sg w' g o k ↔ Sg w g o k := by unfold Sg; rw [h]
theorem WF.refl (g o : Nat) (w : World) : WF g o w w := ⟨But.refl _ _, fun _ _ h => h⟩
theorem WF.trans {g o : Nat} {a b c : World} (h : WF g o a b) (k : WF g o b c) : WF g o a c :=
  ⟨⟨k.but.os.trans h.but.os, k.but.tape.trans h.but.tape, k.but.output.trans h.but.output, Nat.le_trans h.but.size k.but.size, fun i hi hs =>
    (k.but.block i (by have := h.but.size; omega) (fun hh => hs (h.row i hi hh))).trans (h.but.block i hi hs)⟩,
   fun i hi hk => h.row i hi (k.row i (by have := h.but.size; omega) hk)⟩
/-- a writer's row is old -/
theorem Sg.lt {w : World} {g o : Nat} {A : Option Addr} {n c base : Nat} {L : List Nat} (hc : w.cell? ⟨g, o, none⟩ = some (.slice A n c)) (h : w.ownsRow base 5 1 (.slice A n c) n (by_ L)) (hg : g < w.heap.size) {k : Nat} (hk : Sg w g o k) : k < w.heap.size := by
  rcases hk with rfl | ⟨n', c', e⟩
  · exact hg
  · rw [hc] at e
    injection e with e
    injection e with e1
    subst e1
    exact (h.lt k rfl).2
theorem Wr.sg {w : World} {g : Nat} {lim e : Int} {L : List Nat} (h : Wr w g lim e L) {k : Nat} (hk : Sg w g 0 k) : g ≤ k ∧ k < w.heap.size := by
  obtain ⟨A, c, h0, h1⟩ := h.b
  refine ⟨?_, Sg.lt h0 h1 h.lt hk⟩
  rcases hk with rfl | ⟨n', c', e⟩
  · exact Nat.le_refl _
  · rw [h0] at e
    injection e with e
    injection e with e1
    subst e1
    have := (h1.lt k rfl).1
    omega
theorem RWr.sg {w : World} {g : Nat} {lim e : Int} {L : List Nat} (h : RWr w g lim e L) {k : Nat} (hk : Sg w g 1 k) : g ≤ k ∧ k < w.heap.size := by
  obtain ⟨A, c, h0, h1⟩ := h.b
  refine ⟨?_, Sg.lt h0 h1 h.lt hk⟩
  rcases hk with rfl | ⟨n', c', e⟩
  · exact Nat.le_refl _
  · rw [h0] at e
    injection e with e
    injection e with e1
    subst e1
    have := (h1.lt k rfl).1
    omega
end
section
open Go.RowKit
theorem Wr.ext {w w' : World} {g : Nat} {lim err : Int} {L : List Nat} (h : Wr w g lim err L) (hb : Ext w w') : Wr w' g lim err L := h.keep hb
theorem Rd.ext {w w' : World} {g k : Nat} {L : List Nat} {flt : Option (Int × Int)} (h : Rd w g L k flt) (hb : Ext w w') : Rd w' g L k flt := h.keep hb
/-- a write that fits -/
theorem wAdd_fit {lim : Int} {L b : List Nat} (h : (L.length : Int) + b.length ≤ lim) : wAddE lim 0 L b = 0 ∧ wAddL lim 0 L b = L ++ b := by
  have e : wAddE lim 0 L b = 0 := by unfold wAddE; rw [if_pos rfl, if_neg (by omega)]
  exact ⟨e, by unfold wAddL; rw [e, if_pos rfl]⟩
theorem putL_ten {N : Nat} (hN : N < 18446744073709551616) : (putL N).length ≤ 10 := by have := putL_len N 9 (by omega); omega
theorem But.ofBelow {g : Nat} {w w' : World} (h : Below g w w') : But (fun k => g ≤ k) w w' := ⟨h.os, h.tape, h.output, h.size, fun k _ hs => h.block k (by have h2 : ¬ g ≤ k := hs; omega)⟩
/-- the writer at g does not have the block q -/
def Off (w : World) (g o q : Nat) : Prop := g < w.heap.size ∧ q < w.heap.size ∧ ¬ Sg w g o q
theorem Off.ext {w w' : World} {g o q : Nat} (h : Off w g o q) (hx : Ext w w') : Off w' g o q :=
  ⟨by have := h.1; have := hx.size; omega, by have := h.2.1; have := hx.size; omega, fun hs => h.2.2 ((Sg.congr (hx.cells.1 g o h.1)).1 hs)⟩
theorem Off.wf {w w' : World} {g o q : Nat} (h : Off w g o q) (hx : WF g o w w') : Off w' g o q :=
  ⟨by have := h.1; have := hx.but.size; omega, by have := h.2.1; have := hx.but.size; omega, fun hs => h.2.2 (hx.row q h.2.1 hs)⟩
theorem Off.new {w w' : World} {g q : Nat} {lim e : Int} {L : List Nat} (h : Wr w g lim e L) (hq : w.heap.size ≤ q) (hx : Ext w w') (hq2 : q < w'.heap.size) : Off w' g 0 q :=
  ⟨by have := h.lt; have := hx.size; omega, hq2, fun hs => by have := Wr.sg h ((Sg.congr (hx.cells.1 g 0 h.lt)).1 hs); omega⟩
theorem cWN_fit (g : Nat) (lim : Int) (L : List Nat) (n : Int) (h0 : 0 ≤ n) (h1 : n < 9223372036854775808) (hf : (L.length : Int) + 10 ≤ lim) (w : World) (h : Wr w g lim 0 L) :
    Calls Try.prog 102 #[.pointer (some ⟨g, 0, none⟩), .int .i64 n] w fun r w' => r = .returned (.int .i64 0) ∧ Wr w' g lim 0 (L ++ putL n.toNat) ∧ But (fun k => g ≤ k) w w' := by
  obtain ⟨N, rfl⟩ : ∃ N : Nat, n = (N : Int) := ⟨n.toNat, by omega⟩
  rw [show ((N : Int)).toNat = N from by simp]
  have hb := putL_ten (N := N) (by omega)
  obtain ⟨e1, e2⟩ := wAdd_fit (lim := lim) (L := L) (b := putL N) (by omega)
  have hc := cWN_pos g lim L N (by omega) w h
  rw [e1, e2] at hc
  refine hc.mono ?_
  rintro r w' ⟨h1, h2, h3⟩
  exact ⟨h1, h2, But.ofBelow h3⟩
theorem cNewWriter_ex (lim : Int) (h0 : 0 ≤ lim) (h1 : lim ≤ 1048576) (w : World) :
    Calls Try.prog 101 #[.int .i64 lim] w fun r w' => ∃ g, r = .returned (.tuple #[.pointer (some ⟨g, 0, none⟩), .int .i64 0]) ∧ w.heap.size ≤ g ∧ Wr w' g lim 0 [] ∧ Ext w w' :=
  (cNewWriter_any lim h0 h1 w).mono fun r w' h => ⟨_, h.1, Nat.le_refl _, h.2⟩
theorem cDone_ok (g : Nat) (lim : Int) (L : List Nat) (w : World) (h : Wr w g lim 0 L) : Calls Try.prog 103 #[.pointer (some ⟨g, 0, none⟩)] w (ByErr L 0 w) := by
  have h := cDone_any g lim 0 L w h
  rwa [if_pos rfl] at h
theorem SlB.bel {B G : Nat} {w w' : World} {sz n c : Nat} {A : Option Addr} {xs : List Value} (h : SlB B w sz A n c xs) (hx : Below G w w') (hb : B ≤ G) : SlB B w' sz A n c xs := by
  refine ⟨⟨h.1.1, h.1.2.1, h.1.2.2.1, fun hn => ?_⟩, h.2⟩
  obtain ⟨b, o, e, hlt, hc⟩ := h.1.at_ hn
  have h2 := h.2 hn b o none e
  exact ⟨b, o, e, by have := hx.size; omega, fun j u hu => (hx.cell (p := ⟨b, o + j, none⟩) (show b < G by omega)).trans (hc j u hu)⟩
theorem Ext.bel {a b c : World} {g : Nat} (h : Ext a b) (k : Below g b c) (hg : a.heap.size ≤ g) : Ext a c := Below.trans h (k.mono hg)
end
section
open Go.RowKit
section
variable {S : Nat → Prop} {w w' : World} {g k n q B : Nat} {L : List Nat} {flt : Option (Int × Int)} {base sz : Nat} {e : TypeId} {v : Value} {xs : List Value}
theorem Sl.butAll {A : Option Addr} {m c : Nat} (h : Sl w sz A m c xs) (hx : But S w w') (hS : ∀ b o s, A = some ⟨b, o, s⟩ → ¬ S b) : Sl w' sz A m c xs := by
  refine ⟨h.1, h.2.1, h.2.2.1, fun hn => ?_⟩
  obtain ⟨b, o, e, hb, hc⟩ := h.at_ hn
  exact ⟨b, o, e, by have := hx.size; omega, fun j u hu => hx.has (hS b o none e) (hc j u hu)⟩
theorem Rd.butT (h : Rd w g L k flt) (hx : But S w w') (hS : ∀ j, j < w.heap.size → S j → g < j ∧ ∀ cs z, w.heap[j]? ≠ some (.cells cs 69 z)) : Rd w' g L k flt := by
  obtain ⟨A, c, h0, h1, h2⟩ := h.b
  obtain ⟨v, h3, h4⟩ := h.c3
  have hg : ¬ S g := fun hs => by have := (hS g h.lt hs).1; omega
  have cl : ∀ o, w'.cell? ⟨g, o, none⟩ = w.cell? ⟨g, o, none⟩ := fun o => hx.cell h.lt hg
  have fl : ∀ o, w'.frozen? ⟨g, o, none⟩ = w.frozen? ⟨g, o, none⟩ := fun o => hx.frozen h.lt hg
  refine ⟨⟨A, c, (cl 0).trans h0, h1.butAll hx (fun b o s e hs => ?_), h2⟩, (cl 1).trans h.c1, (cl 2).trans h.c2, ⟨v, (cl 3).trans h3, ?_⟩, (fl 1).trans h.f1, (fl 3).trans h.f3, by have := h.lt; have := hx.size; omega, h.le, h.byt⟩
  · have hb := h2 b o s e
    have := (hS b (by have := h.lt; omega) hs).1
    omega
  · match flt, h4 with
    | none, h4 => exact h4
    | some (e, a), ⟨fb, h1, h2, h3, h4, cs, z, h5⟩ =>
      have hf : ¬ S fb := fun hs => (hS fb h2.2 hs).2 cs z h5
      exact ⟨fb, h1, ⟨h2.1, by have := hx.size; omega⟩, (hx.cell h2.2 hf).trans h3, (hx.cell h2.2 hf).trans h4, cs, z, (hx.block fb h2.2 hf).trans h5⟩
theorem RRd.butT (h : RRd w g L k flt) (hx : But S w w') (hS : ∀ j, j < w.heap.size → S j → g < j) : RRd w' g L k flt := by
  obtain ⟨A, c, h0, h1, h2⟩ := h.b
  obtain ⟨t, h3, h4, h5⟩ := h.c1
  obtain ⟨cs, z, h6⟩ := h.ty
  have hg : ¬ S g := fun hs => by have := hS g h.lt hs; omega
  have cl : ∀ o, w'.cell? ⟨g, o, none⟩ = w.cell? ⟨g, o, none⟩ := fun o => hx.cell h.lt hg
  have fl : ∀ o, w'.frozen? ⟨g, o, none⟩ = w.frozen? ⟨g, o, none⟩ := fun o => hx.frozen h.lt hg
  refine ⟨⟨A, c, (cl 0).trans h0, h1.butAll hx (fun b o s e hs => ?_), h2⟩, ⟨t, (cl 1).trans h3, h4, h5⟩, (cl 2).trans h.c2, (cl 3).trans h.c3, (fl 1).trans h.f1, (fl 2).trans h.f2, (fl 3).trans h.f3, by have := h.lt; have := hx.size; omega, h.le, h.byt, h.nz, cs, z, (hx.block g h.lt hg).trans h6⟩
  have hb := (h2 b o s e).1
  have := hS b (by have := h.lt; omega) hs
  omega
/-- a row of one's own, all of it below a bound -/
def OwnR (q : Nat) (w : World) (base : Nat) (e : TypeId) (sz : Nat) (v : Value) (n : Nat) (xs : List Value) : Prop := w.ownsRow base e sz v n xs ∧ ∀ j, v.ownBlock = some j → j < q
theorem own_but (h : w.ownsRow base e sz v n xs) (hx : But S w w') (hS : ∀ j, v.ownBlock = some j → ¬ S j) : w'.ownsRow base e sz v n xs := by
  refine ⟨h.1, ?_⟩
  rcases h.2 with h2 | ⟨r, cap, cur, e', hr, hr2, rest⟩
  · exact .inl h2
  · refine .inr ⟨r, cap, cur, e', hr, ?_, rest⟩
    rw [← hr2]
    exact hx.block r (Array.getElem?_eq_some_iff.1 hr2).1 (hS r (by rw [e']; rfl))
theorem own_block (h : w.ownsRow base e sz v n xs) {j : Nat} (hj : v.ownBlock = some j) : base ≤ j ∧ j < w.heap.size ∧ ∃ cs, w.heap[j]? = some (.cells cs e (0, 0)) := by
  rcases h.2 with ⟨rfl, _⟩ | ⟨r, cap, cur, rfl, hr, hr2, rest⟩
  · cases hj
  · injection hj with hj
    have hj2 : r = j := hj
    subst hj2
    exact ⟨hr, (Array.getElem?_eq_some_iff.1 hr2).1, cur, hr2⟩
theorem OwnR.mk (h : w.ownsRow base e sz v n xs) : OwnR w.heap.size w base e sz v n xs := ⟨h, fun j hj => (own_block h hj).2.1⟩
theorem OwnR.own (h : OwnR q w base e sz v n xs) : w.ownsRow base e sz v n xs := h.1
theorem OwnR.raise (h : OwnR q w base e sz v n xs) : OwnR w.heap.size w base e sz v n xs := OwnR.mk h.1
theorem OwnR.ext (h : OwnR q w base e sz v n xs) (hx : Ext w w') : OwnR q w' base e sz v n xs := ⟨own_keep h.1 hx, h.2⟩
theorem OwnR.drewN (h : OwnR q w base e sz v n xs) (m : Nat) : OwnR q (w.drewN m) base e sz v n xs := h.ext ((Ext.refl w).drewN m)
theorem But.one (w : World) (b o : Nat) (u : Value) : But (· = b) w (w.setCell ⟨b, o, none⟩ u) := (But.refl (fun k => k = b) w).setCell (p := ⟨b, o, none⟩) rfl u
theorem OwnR.set {b o : Nat} (h : OwnR q w base e sz v n xs) (hb : q ≤ b) (u : Value) : OwnR q (w.setCell ⟨b, o, none⟩ u) base e sz v n xs :=
  ⟨own_but h.1 (But.one w b o u) (fun j hj e => by have := h.2 j hj; omega), h.2⟩
theorem OwnR.but (h : OwnR q w base e sz v n xs) (hx : But S w w') (hS : ∀ j, base ≤ j → j < q → ¬ S j) : OwnR q w' base e sz v n xs :=
  ⟨own_but h.1 hx (fun j hj => hS j (own_block h.1 hj).1 (h.2 j hj)), h.2⟩
/-- a reader, and a block that is not its fault -/
def RdT (q : Nat) (w : World) (g : Nat) (L : List Nat) (k : Nat) (flt : Option (Int × Int)) : Prop := Rd w g L k flt ∧ g < q ∧ q < w.heap.size ∧ ∀ cs z, w.heap[q]? ≠ some (.cells cs 69 z)
theorem RdT.rd (h : RdT q w g L k flt) : Rd w g L k flt := h.1
theorem RdT.new (h : Rd w g L k flt) (cs : Array Value) (t : TypeId) (ht : t ≠ 69) : RdT w.heap.size (w.alloc (.cells cs t)) g L k flt := by
  refine ⟨h.ext ((Ext.refl w).alloc _), h.lt, by simp, fun cs' z hh => ?_⟩
  rw [World.alloc_heap_new] at hh
  injection hh with hh
  injection hh with _ hh
  exact ht hh
theorem RdT.set {b o : Nat} (h : RdT q w g L k flt) (hb : b = q) (u : Value) : RdT q (w.setCell ⟨b, o, none⟩ u) g L k flt := by
  subst hb
  refine ⟨h.1.butT (But.one w b o u) (fun j _ hj => by subst hj; exact ⟨h.2.1, h.2.2.2⟩), h.2.1, by simpa using h.2.2.1, fun cs z hh => ?_⟩
  obtain ⟨cs', z', hh'⟩ : ∃ cs' z', w.heap[b]? = some (.cells cs' 69 z') := by
    rw [World.setCell, Array.getElem?_modify, if_pos rfl] at hh
    rcases hw : w.heap[b]? with _ | ob
    · rw [hw] at hh; simp at hh
    · rw [hw] at hh
      rcases ob with ⟨cs0, t0, z0⟩ | _ <;> simp at hh
      obtain ⟨_, h2, h3⟩ := hh
      subst h2
      exact ⟨cs0, z0, rfl⟩
  exact h.2.2.2 _ _ hh'
theorem OwnR.butN (h : OwnR q w base e sz v n xs) (hx : But (fun j => q ≤ j) w w') : OwnR q w' base e sz v n xs := h.but hx (fun j _ h2 hh => by have h3 : q ≤ j := hh; omega)
theorem RdT.ext (h : RdT q w g L k flt) (hx : Ext w w') : RdT q w' g L k flt :=
  ⟨h.1.ext hx, h.2.1, by have := h.2.2.1; have := hx.size; omega, fun cs z hh => h.2.2.2 cs z (by rw [← hh]; exact (Below.block hx q h.2.2.1).symm)⟩
theorem RdT.drewN (h : RdT q w g L k flt) (m : Nat) : RdT q (w.drewN m) g L k flt := h.ext ((Ext.refl w).drewN m)
theorem RdT.to {k' : Nat} {flt' : Option (Int × Int)} (h : RdT q w g L k flt) (hr : Rd w' g L k' flt') (hx : But (· = g) w w') : RdT q w' g L k' flt' :=
  ⟨hr, h.2.1, by have := h.2.2.1; have := hx.size; omega, fun cs z hh => h.2.2.2 cs z (by rw [← hh]; exact (hx.block q h.2.2.1 (fun e => by have := h.2.1; have e2 : q = g := e; omega)).symm)⟩
end
theorem cRN_T (q g k : Nat) (L : List Nat) (flt : Option (Int × Int)) (least most : Int) (h0 : 0 ≤ least) (h1 : least ≤ 9223372036854775807) (h2 : 0 ≤ most) (h3 : most ≤ 9223372036854775807) (hL : L.length < 1099511627776) (w : World) (h : RdT q w g L k flt) :
    Calls Try.prog 112 #[.pointer (some ⟨g, 0, none⟩), .int .i64 least, .int .i64 most] w fun r w' => r = .returned (.int .i64 (rnV L k flt least most)) ∧ RdT q w' g L (rnK L k flt least most) (rnF L k flt least most) ∧ But (· = g) w w' :=
  (cRN_any g k L flt least most h0 h1 h2 h3 hL w h.1).mono fun r w' hh => ⟨hh.1, h.to hh.2.1 hh.2.2, hh.2.2⟩
theorem cFail_T (q g k : Nat) (L : List Nat) (flt : Option (Int × Int)) (e a : Int) (w : World) (h : RdT q w g L k flt) :
    Calls Try.prog 114 #[.pointer (some ⟨g, 0, none⟩), .int .i64 e, .int .i64 a] w fun r w' => (∃ v, r = .returned v) ∧ RdT q w' g L k (failF flt e a) ∧ But (· = g) w w' :=
  (cFail_any g k L flt e a w h.1).mono fun r w' hh => ⟨hh.1, h.to hh.2.1 hh.2.2, hh.2.2⟩
theorem RRd.butN {w w' : World} {g k : Nat} {L : List Nat} {flt : Option (Int × Int)} (h : RRd w g L k flt) (hx : But (fun j => g < j) w w') : RRd w' g L k flt := h.butT hx (fun j _ hj => hj)
theorem flt_eql (e a e' a' : Int) (w : World) : (binOp .eql 69 (.agg #[.int .i64 e, .int .i64 a]) (.agg #[.int .i64 e', .int .i64 a'])).run Try.prog w = .ok (.bool (e == e' && a == a')) w := by
  have hS : Try.prog.underlying 69 = some (.struct (Try.prog.fieldsOf 69)) := by kernel_rfl
  have hp : Try.prog.stoodInHeld 69 = false := by kernel_rfl
  rw [run_eql_struct, show (10000 : Nat) = 9999 + 1 from rfl, run_equalIn_agg w 9999 69 _ _ hS hp]
  simp only [Program.fieldsOf, Try.underlying69]
  go_simp
  by_cases h0 : e = e' <;> by_cases h1 : a = a' <;> simp [h0, h1]
theorem flt_neq (e a e' a' : Int) (w : World) : (binOp .neq 69 (.agg #[.int .i64 e, .int .i64 a]) (.agg #[.int .i64 e', .int .i64 a'])).run Try.prog w = .ok (.bool (!(e == e' && a == a'))) w := by
  have hS : Try.prog.underlying 69 = some (.struct (Try.prog.fieldsOf 69)) := by kernel_rfl
  have hp : Try.prog.stoodInHeld 69 = false := by kernel_rfl
  rw [run_neq_struct, show (10000 : Nat) = 9999 + 1 from rfl, run_equalIn_agg w 9999 69 _ _ hS hp]
  simp only [Program.fieldsOf, Try.underlying69]
  go_simp
  by_cases h0 : e = e' <;> by_cases h1 : a = a' <;> simp [h0, h1]
theorem flt_eqg (op : BinOp) (x y : Operand) (xs ys : Array Value) (w : World) : (eqGuard op 69 x y (.agg xs) (.agg ys)).run Try.prog w = .ok () w := run_eqGuard_agg w op 69 x y xs ys (by kernel_rfl)
theorem own_ne_fault {w : World} {base sz n g : Nat} {e : TypeId} {v : Value} {xs : List Value} (h : w.ownsRow base e sz v n xs) (hg : g < base) (ht : e ≠ 69) : ∀ j, j < w.heap.size → v.ownBlock = some j → g < j ∧ ∀ cs z, w.heap[j]? ≠ some (.cells cs 69 z) := by
  intro j _ hj
  obtain ⟨h1, _, cs0, h3⟩ := own_block h hj
  refine ⟨by omega, fun cs z hh => ?_⟩
  rw [h3] at hh
  injection hh with hh
  injection hh with _ hh
  exact ht hh
theorem rnV_in (L : List Nat) (k : Nat) (flt : Option (Int × Int)) (least most : Int) (h2 : 0 ≤ most) : 0 ≤ rnV L k flt least most ∧ rnV L k flt least most ≤ most := by
  unfold rnV
  split
  · rename_i h
    have := rnE_zero h.2
    omega
  · omega
theorem cRN_e (g k k' : Nat) (L : List Nat) (flt flt' : Option (Int × Int)) (least most v : Int) (h0 : 0 ≤ least) (h1 : least ≤ 9223372036854775807) (h2 : 0 ≤ most) (h3 : most ≤ 9223372036854775807) (hL : L.length < 1099511627776) (hv : v = rnV L k flt least most) (hk : k' = rnK L k flt least most) (hf : flt' = rnF L k flt least most) (w : World) (h : Rd w g L k flt) :
    Calls Try.prog 112 #[.pointer (some ⟨g, 0, none⟩), .int .i64 least, .int .i64 most] w fun r w' => r = .returned (.int .i64 v) ∧ Rd w' g L k' flt' ∧ But (· = g) w w' := by
  subst hv hk hf
  exact cRN_any g k L flt least most h0 h1 h2 h3 hL w h
theorem cRN_Te (q g k k' : Nat) (L : List Nat) (flt flt' : Option (Int × Int)) (least most v : Int) (h0 : 0 ≤ least) (h1 : least ≤ 9223372036854775807) (h2 : 0 ≤ most) (h3 : most ≤ 9223372036854775807) (hL : L.length < 1099511627776) (hv : v = rnV L k flt least most) (hk : k' = rnK L k flt least most) (hf : flt' = rnF L k flt least most) (w : World) (h : RdT q w g L k flt) :
    Calls Try.prog 112 #[.pointer (some ⟨g, 0, none⟩), .int .i64 least, .int .i64 most] w fun r w' => r = .returned (.int .i64 v) ∧ RdT q w' g L k' flt' ∧ But (· = g) w w' := by
  subst hv hk hf
  exact cRN_T q g k L flt least most h0 h1 h2 h3 hL w h
end
section
open Go.RowKit Go.ChangeShapes Go.WideShapes Go.Deep Go.Joins
/-- the first fault of a list, and where -/
def chkG (lim : Nat) (bad : Nat → Int) (n : Nat) : Int × Int := if lim < n then (4, (lim : Int)) else match (List.range n).find? (fun k => bad k != 0) with | some k => (bad k, ((k : Nat) : Int)) | none => (0, 0)
theorem chkG_long {lim n : Nat} {bad : Nat → Int} (h : lim < n) : chkG lim bad n = (4, (lim : Int)) := by unfold chkG; rw [if_pos h]
theorem chkG_bad {lim n k : Nat} {bad : Nat → Int} (hl : ¬ lim < n) (hk : k < n) (hb : bad k ≠ 0) (hp : ∀ j, j < k → bad j = 0) : chkG lim bad n = (bad k, ((k : Nat) : Int)) := by
  have : (List.range n).find? (fun k => bad k != 0) = some k := by
    rw [List.find?_range_eq_some]
    exact ⟨by simpa using hb, by simpa using hk, fun j hj => by simpa using hp j hj⟩
  unfold chkG
  rw [if_neg hl, this]
theorem chkG_ok {lim n : Nat} {bad : Nat → Int} (hl : ¬ lim < n) (hp : ∀ j, j < n → bad j = 0) : chkG lim bad n = (0, 0) := by
  have : (List.range n).find? (fun k => bad k != 0) = none := by
    rw [List.find?_range_eq_none]
    intro j hj
    simpa using hp j hj
  unfold chkG
  rw [if_neg hl, this]
theorem chkG_zero {lim n : Nat} {bad : Nat → Int} (h : (chkG lim bad n).1 = 0) : chkG lim bad n = (0, 0) ∧ n ≤ lim ∧ ∀ j, j < n → bad j = 0 := by
  by_cases hl : lim < n
  · rw [chkG_long hl] at h; simp at h
  by_cases hp : ∀ j, j < n → bad j = 0
  · exact ⟨chkG_ok hl hp, by omega, hp⟩
  · exfalso
    unfold chkG at h
    rw [if_neg hl] at h
    split at h
    · rename_i k hk
      have := List.find?_some hk
      simp at this h
      exact this h
    · rename_i hk
      rw [List.find?_range_eq_none] at hk
      apply hp
      intro j hj
      simpa using hk j hj
/-- a hop may be -/
def MayH (x : (Int × Int × Int × Int)) : Prop := (0 ≤ x.2.1 ∧ x.2.1 < 32) ∧ (0 ≤ x.2.2.1 ∧ x.2.2.1 < 32) ∧ x.2.1 ≠ x.2.2.1 ∧ (0 ≤ x.1 ∧ x.1 < 64) ∧ 1 ≤ x.2.2.2 ∧ x.2.2.2 ≤ 4294967296
instance (x : (Int × Int × Int × Int)) : Decidable (MayH x) := by unfold MayH; infer_instance
/-- why a hop may not be behind others -/
def mayV (x : (Int × Int × Int × Int)) (ahead : List (Int × Int × Int × Int)) : Int := if ¬ MayH x then 3 else match ahead.getLast? with | some y => if x.2.2.2 < y.2.2.2 then 9 else 0 | none => 0
def badH (l : List (Int × Int × Int × Int)) (k : Nat) : Int := match l[k]? with | some x => mayV x (l.take k) | none => 0
def chkH (l : List (Int × Int × Int × Int)) : Int × Int := chkG 4096 (badH l) l.length
theorem hopOut_any (n m : Int) (b : Bool) (w : World) (hb : b = decide (n < 0 ∨ n ≥ m)) : Calls Try.prog 131 #[.int .i64 n, .int .i64 m] w fun e w' => e = .returned (.bool b) ∧ Ext w w' := by
  by_cases h1 : n < 0
  · have e : b = true := by rw [hb]; exact decide_eq_true (.inl h1)
    subst e
    clear hb
    go_enter Try.func131, Try.ntmps131
    go_wp2
    go_ret
    exact ⟨rfl, Ext.refl _⟩
  · by_cases h2 : n ≥ m
    · have e : b = true := by rw [hb]; exact decide_eq_true (.inr h2)
      subst e
      clear hb
      go_enter Try.func131, Try.ntmps131
      go_wp2
      go_ret
      exact ⟨rfl, Ext.refl _⟩
    · have e : b = false := by rw [hb]; exact decide_eq_false (by omega)
      subst e
      clear hb
      go_enter Try.func131, Try.ntmps131
      go_wp2
      go_ret
      exact ⟨rfl, Ext.refl _⟩
theorem hopTime_any (u : Int) (b : Bool) (w : World) (hb : b = decide (1 ≤ u ∧ u ≤ 1048576)) : Calls Try.prog 89 #[.int .i64 u] w fun e w' => e = .returned (.bool b) ∧ Ext w w' := by
  by_cases h1 : u ≥ 1
  · by_cases h2 : u ≤ 1048576
    · have e : b = true := by rw [hb]; exact decide_eq_true ⟨h1, h2⟩
      subst e
      clear hb
      go_enter Try.func89, Try.ntmps89
      go_wp2
      go_ret
      exact ⟨rfl, Ext.refl _⟩
    · have e : b = false := by rw [hb]; exact decide_eq_false (fun h => h2 h.2)
      subst e
      clear hb
      go_enter Try.func89, Try.ntmps89
      go_wp2
      go_ret
      exact ⟨rfl, Ext.refl _⟩
  · have e : b = false := by rw [hb]; exact decide_eq_false (fun h => h1 h.1)
    subst e
    clear hb
    go_enter Try.func89, Try.ntmps89
    go_wp2
    go_ret
    exact ⟨rfl, Ext.refl _⟩
set_option maxRecDepth 100000 in
set_option maxHeartbeats 4000000 in
theorem hopMay_any (x0 x1 x2 x3 : Int) (A : Option Addr) (c n : Nat) (l : List (Int × Int × Int × Int)) (w : World) (hx : Fits .i64 x3) (h : Sl w 4 A n c (l.flatMap hopC)) :
    Calls Try.prog 87 #[.agg #[.int .i64 x0, .int .i64 x1, .int .i64 x2, .int .i64 x3], .slice A n c] w fun e w' => e = .returned (.int .i64 (mayV (x0, x1, x2, x3) l)) ∧ Ext w w' := by
  have hl := h.rlen hopC_len (by decide)
  have s1 := h.small
  have HS := Lib.hid h
  have hfx := hx.i64
  have HMV : Hid (mayV (x0, x1, x2, x3) l = if ¬ MayH (x0, x1, x2, x3) then 3 else match l.getLast? with | some y => if x3 < y.2.2.2 then 9 else 0 | none => 0) := Lib.hid rfl
  obtain ⟨V, hV⟩ : ∃ v, v = mayV (x0, x1, x2, x3) l := ⟨_, rfl⟩
  rw [← hV] at HMV ⊢
  have hwr : 1 ≤ x3 → IntKind.i64.wrap (x3 - 1) = x3 - 1 := fun _ => IntWalk.i64_in _ (by omega)
  obtain ⟨y3, hy3⟩ : ∃ y, y = IntKind.i64.wrap (x3 - 1) := ⟨_, rfl⟩
  have hy := hy3
  have hwy : IntKind.i64.wrap (x3 - 1) = y3 := hy3.symm
  have hy4 : (y3 < 0 ∨ y3 ≥ 4294967296) ↔ ¬ (1 ≤ x3 ∧ x3 ≤ 4294967296) := by
    rw [hy3]
    by_cases h1 : -9223372036854775807 ≤ x3
    · rw [IntWalk.i64_in _ (by omega)]; omega
    · obtain rfl : x3 = -9223372036854775808 := by omega
      decide
  clear hy hy3 hwr h hx hfx
  by_cases g0 : x0 < 0 ∨ x0 ≥ 64
  · have HV : Hid (V = 3) := Lib.hid (HMV.out.trans (if_pos (by unfold MayH; dsimp only; omega)))
    have HB0 : Hid (true = decide (x0 < 0 ∨ x0 ≥ 64)) := Lib.hid ((decide_eq_true g0).symm)
    clear g0 hV hy4
    go_enter Try.func87, Try.ntmps87
    go_wp2_with fail
    go_step3
    go_wp2_with fail
    go_step3
    go_wp2_with fail
    (with_reducible refine (hopOut_any x0 64 true _ HB0.out).mono ?_)
    rintro e w1 ⟨rfl, hx1⟩
    have z1 := hx1.size
    try simp at z1
    replace HS := Lib.hid (HS.out.ext (Ext.trans (by repeat (first | with_reducible exact Ext.refl _ | with_reducible refine Ext.drew ?_ | with_reducible refine Ext.drewN ?_ _ | with_reducible refine Ext.alloc ?_ _ | with_reducible refine Ext.setCell ?_ (by first | omega | (simp; done) | (simp; omega)) _)) hx1))
    have X1 : Hid (Ext w w1) := Lib.hid (Ext.trans (by repeat (first | with_reducible exact Ext.refl w | with_reducible refine Ext.drew ?_ | with_reducible refine Ext.drewN ?_ _ | with_reducible refine Ext.alloc ?_ _ | with_reducible refine Ext.setCell ?_ (by first | omega | (simp; done) | (simp; omega)) _)) hx1)
    clear hx1 z1
    go_wp2_with fail
    rw [Exit.noGoto_ret]
    go_ret
    exact ⟨by rw [HV.out]; try rfl, (by repeat (first | with_reducible exact X1.out | with_reducible refine Ext.drew ?_ | with_reducible refine Ext.drewN ?_ _ | with_reducible refine Ext.alloc ?_ _ | with_reducible refine Ext.setCell ?_ (by first | omega | (simp; done) | (simp; omega)) _))⟩
  by_cases g1 : x1 < 0 ∨ x1 ≥ 32
  · have HV : Hid (V = 3) := Lib.hid (HMV.out.trans (if_pos (by unfold MayH; dsimp only; omega)))
    have HB0 : Hid (false = decide (x0 < 0 ∨ x0 ≥ 64)) := Lib.hid ((decide_eq_false g0).symm)
    have HB1 : Hid (true = decide (x1 < 0 ∨ x1 ≥ 32)) := Lib.hid ((decide_eq_true g1).symm)
    clear g0 g1 hV hy4
    go_enter Try.func87, Try.ntmps87
    go_wp2_with fail
    go_step3
    go_wp2_with fail
    go_step3
    go_wp2_with fail
    (with_reducible refine (hopOut_any x0 64 false _ HB0.out).mono ?_)
    rintro e w1 ⟨rfl, hx1⟩
    have c0_1 : w1.cell? ⟨w.heap.size, 1, none⟩ = some (.int .i64 x1) := hx1.has (by first | fail | (simp [go_sem, World.cell?_alloc_past]; done))
    have z1 := hx1.size
    try simp at z1
    have rc0 : w.heap.size < w1.heap.size := by omega
    have rc0a : w.heap.size < w1.heap.size + 1 := by omega
    have rc0b : w.heap.size < w1.heap.size + 1 + 1 := by omega
    have rc0c : w.heap.size < w1.heap.size + 1 + 1 + 1 := by omega
    have rc0n : ¬ w.heap.size = w1.heap.size := by omega
    replace HS := Lib.hid (HS.out.ext (Ext.trans (by repeat (first | with_reducible exact Ext.refl _ | with_reducible refine Ext.drew ?_ | with_reducible refine Ext.drewN ?_ _ | with_reducible refine Ext.alloc ?_ _ | with_reducible refine Ext.setCell ?_ (by first | omega | (simp; done) | (simp; omega)) _)) hx1))
    have X1 : Hid (Ext w w1) := Lib.hid (Ext.trans (by repeat (first | with_reducible exact Ext.refl w | with_reducible refine Ext.drew ?_ | with_reducible refine Ext.drewN ?_ _ | with_reducible refine Ext.alloc ?_ _ | with_reducible refine Ext.setCell ?_ (by first | omega | (simp; done) | (simp; omega)) _)) hx1)
    clear hx1 z1
    go_wp2_with fail
    (with_reducible refine (hopOut_any x1 32 true _ HB1.out).mono ?_)
    rintro e w2 ⟨rfl, hx2⟩
    have z2 := hx2.size
    try simp at z2
    replace HS := Lib.hid (HS.out.ext (Ext.trans (by repeat (first | with_reducible exact Ext.refl _ | with_reducible refine Ext.drew ?_ | with_reducible refine Ext.drewN ?_ _ | with_reducible refine Ext.alloc ?_ _ | with_reducible refine Ext.setCell ?_ (by first | omega | (simp; done) | (simp; omega)) _)) hx2))
    have X2 : Hid (Ext w w2) := Lib.hid (Ext.trans (by repeat (first | with_reducible exact X1.out | with_reducible refine Ext.drew ?_ | with_reducible refine Ext.drewN ?_ _ | with_reducible refine Ext.alloc ?_ _ | with_reducible refine Ext.setCell ?_ (by first | omega | (simp; done) | (simp; omega)) _)) hx2)
    clear c0_1 rc0 rc0a rc0b rc0c rc0n X1 hx2 z2
    go_wp2_with fail
    rw [Exit.noGoto_ret]
    go_ret
    exact ⟨by rw [HV.out]; try rfl, (by repeat (first | with_reducible exact X2.out | with_reducible refine Ext.drew ?_ | with_reducible refine Ext.drewN ?_ _ | with_reducible refine Ext.alloc ?_ _ | with_reducible refine Ext.setCell ?_ (by first | omega | (simp; done) | (simp; omega)) _))⟩
  by_cases g2 : x2 < 0 ∨ x2 ≥ 32
  · have HV : Hid (V = 3) := Lib.hid (HMV.out.trans (if_pos (by unfold MayH; dsimp only; omega)))
    have HB0 : Hid (false = decide (x0 < 0 ∨ x0 ≥ 64)) := Lib.hid ((decide_eq_false g0).symm)
    have HB1 : Hid (false = decide (x1 < 0 ∨ x1 ≥ 32)) := Lib.hid ((decide_eq_false g1).symm)
    have HB2 : Hid (true = decide (x2 < 0 ∨ x2 ≥ 32)) := Lib.hid ((decide_eq_true g2).symm)
    clear g0 g1 g2 hV hy4
    go_enter Try.func87, Try.ntmps87
    go_wp2_with fail
    go_step3
    go_wp2_with fail
    go_step3
    go_wp2_with fail
    (with_reducible refine (hopOut_any x0 64 false _ HB0.out).mono ?_)
    rintro e w1 ⟨rfl, hx1⟩
    have c0_1 : w1.cell? ⟨w.heap.size, 1, none⟩ = some (.int .i64 x1) := hx1.has (by first | fail | (simp [go_sem, World.cell?_alloc_past]; done))
    have c0_2 : w1.cell? ⟨w.heap.size, 2, none⟩ = some (.int .i64 x2) := hx1.has (by first | fail | (simp [go_sem, World.cell?_alloc_past]; done))
    have z1 := hx1.size
    try simp at z1
    have rc0 : w.heap.size < w1.heap.size := by omega
    have rc0a : w.heap.size < w1.heap.size + 1 := by omega
    have rc0b : w.heap.size < w1.heap.size + 1 + 1 := by omega
    have rc0c : w.heap.size < w1.heap.size + 1 + 1 + 1 := by omega
    have rc0n : ¬ w.heap.size = w1.heap.size := by omega
    replace HS := Lib.hid (HS.out.ext (Ext.trans (by repeat (first | with_reducible exact Ext.refl _ | with_reducible refine Ext.drew ?_ | with_reducible refine Ext.drewN ?_ _ | with_reducible refine Ext.alloc ?_ _ | with_reducible refine Ext.setCell ?_ (by first | omega | (simp; done) | (simp; omega)) _)) hx1))
    have X1 : Hid (Ext w w1) := Lib.hid (Ext.trans (by repeat (first | with_reducible exact Ext.refl w | with_reducible refine Ext.drew ?_ | with_reducible refine Ext.drewN ?_ _ | with_reducible refine Ext.alloc ?_ _ | with_reducible refine Ext.setCell ?_ (by first | omega | (simp; done) | (simp; omega)) _)) hx1)
    clear hx1 z1
    go_wp2_with fail
    (with_reducible refine (hopOut_any x1 32 false _ HB1.out).mono ?_)
    rintro e w2 ⟨rfl, hx2⟩
    replace c0_2 : w2.cell? ⟨w.heap.size, 2, none⟩ = some (.int .i64 x2) := hx2.has (by first | exact c0_2 | (simp [go_sem, World.cell?_alloc_past, c0_1, c0_2, rc0, rc0a, rc0b, rc0c, rc0n]; done))
    have z2 := hx2.size
    try simp at z2
    replace rc0 : w.heap.size < w2.heap.size := by omega
    replace rc0a : w.heap.size < w2.heap.size + 1 := by omega
    replace rc0b : w.heap.size < w2.heap.size + 1 + 1 := by omega
    replace rc0c : w.heap.size < w2.heap.size + 1 + 1 + 1 := by omega
    replace rc0n : ¬ w.heap.size = w2.heap.size := by omega
    replace HS := Lib.hid (HS.out.ext (Ext.trans (by repeat (first | with_reducible exact Ext.refl _ | with_reducible refine Ext.drew ?_ | with_reducible refine Ext.drewN ?_ _ | with_reducible refine Ext.alloc ?_ _ | with_reducible refine Ext.setCell ?_ (by first | omega | (simp; done) | (simp; omega)) _)) hx2))
    have X2 : Hid (Ext w w2) := Lib.hid (Ext.trans (by repeat (first | with_reducible exact X1.out | with_reducible refine Ext.drew ?_ | with_reducible refine Ext.drewN ?_ _ | with_reducible refine Ext.alloc ?_ _ | with_reducible refine Ext.setCell ?_ (by first | omega | (simp; done) | (simp; omega)) _)) hx2)
    clear c0_1 X1 hx2 z2
    go_wp2_with fail
    (with_reducible refine (hopOut_any x2 32 true _ HB2.out).mono ?_)
    rintro e w3 ⟨rfl, hx3⟩
    have z3 := hx3.size
    try simp at z3
    replace HS := Lib.hid (HS.out.ext (Ext.trans (by repeat (first | with_reducible exact Ext.refl _ | with_reducible refine Ext.drew ?_ | with_reducible refine Ext.drewN ?_ _ | with_reducible refine Ext.alloc ?_ _ | with_reducible refine Ext.setCell ?_ (by first | omega | (simp; done) | (simp; omega)) _)) hx3))
    have X3 : Hid (Ext w w3) := Lib.hid (Ext.trans (by repeat (first | with_reducible exact X2.out | with_reducible refine Ext.drew ?_ | with_reducible refine Ext.drewN ?_ _ | with_reducible refine Ext.alloc ?_ _ | with_reducible refine Ext.setCell ?_ (by first | omega | (simp; done) | (simp; omega)) _)) hx3)
    clear c0_2 rc0 rc0a rc0b rc0c rc0n X2 hx3 z3
    go_wp2_with fail
    rw [Exit.noGoto_ret]
    go_ret
    exact ⟨by rw [HV.out]; try rfl, (by repeat (first | with_reducible exact X3.out | with_reducible refine Ext.drew ?_ | with_reducible refine Ext.drewN ?_ _ | with_reducible refine Ext.alloc ?_ _ | with_reducible refine Ext.setCell ?_ (by first | omega | (simp; done) | (simp; omega)) _))⟩
  by_cases g3 : x1 = x2
  · have HV : Hid (V = 3) := Lib.hid (HMV.out.trans (if_pos (by unfold MayH; dsimp only; omega)))
    have HB0 : Hid (false = decide (x0 < 0 ∨ x0 ≥ 64)) := Lib.hid ((decide_eq_false g0).symm)
    have HB1 : Hid (false = decide (x1 < 0 ∨ x1 ≥ 32)) := Lib.hid ((decide_eq_false g1).symm)
    have HB2 : Hid (false = decide (x2 < 0 ∨ x2 ≥ 32)) := Lib.hid ((decide_eq_false g2).symm)
    have e3 : (x1 == x2) = true := by simpa using g3
    clear g0 g1 g2 g3 hV hy4
    go_enter Try.func87, Try.ntmps87
    go_wp2_with fail
    go_step3
    go_wp2_with fail
    go_step3
    go_wp2_with fail
    (with_reducible refine (hopOut_any x0 64 false _ HB0.out).mono ?_)
    rintro e w1 ⟨rfl, hx1⟩
    have c0_1 : w1.cell? ⟨w.heap.size, 1, none⟩ = some (.int .i64 x1) := hx1.has (by first | fail | (simp [go_sem, World.cell?_alloc_past]; done))
    have c0_2 : w1.cell? ⟨w.heap.size, 2, none⟩ = some (.int .i64 x2) := hx1.has (by first | fail | (simp [go_sem, World.cell?_alloc_past]; done))
    have z1 := hx1.size
    try simp at z1
    have rc0 : w.heap.size < w1.heap.size := by omega
    have rc0a : w.heap.size < w1.heap.size + 1 := by omega
    have rc0b : w.heap.size < w1.heap.size + 1 + 1 := by omega
    have rc0c : w.heap.size < w1.heap.size + 1 + 1 + 1 := by omega
    have rc0n : ¬ w.heap.size = w1.heap.size := by omega
    replace HS := Lib.hid (HS.out.ext (Ext.trans (by repeat (first | with_reducible exact Ext.refl _ | with_reducible refine Ext.drew ?_ | with_reducible refine Ext.drewN ?_ _ | with_reducible refine Ext.alloc ?_ _ | with_reducible refine Ext.setCell ?_ (by first | omega | (simp; done) | (simp; omega)) _)) hx1))
    have X1 : Hid (Ext w w1) := Lib.hid (Ext.trans (by repeat (first | with_reducible exact Ext.refl w | with_reducible refine Ext.drew ?_ | with_reducible refine Ext.drewN ?_ _ | with_reducible refine Ext.alloc ?_ _ | with_reducible refine Ext.setCell ?_ (by first | omega | (simp; done) | (simp; omega)) _)) hx1)
    clear hx1 z1
    go_wp2_with fail
    (with_reducible refine (hopOut_any x1 32 false _ HB1.out).mono ?_)
    rintro e w2 ⟨rfl, hx2⟩
    replace c0_1 : w2.cell? ⟨w.heap.size, 1, none⟩ = some (.int .i64 x1) := hx2.has (by first | exact c0_1 | (simp [go_sem, World.cell?_alloc_past, c0_1, c0_2, rc0, rc0a, rc0b, rc0c, rc0n]; done))
    replace c0_2 : w2.cell? ⟨w.heap.size, 2, none⟩ = some (.int .i64 x2) := hx2.has (by first | exact c0_2 | (simp [go_sem, World.cell?_alloc_past, c0_1, c0_2, rc0, rc0a, rc0b, rc0c, rc0n]; done))
    have z2 := hx2.size
    try simp at z2
    replace rc0 : w.heap.size < w2.heap.size := by omega
    replace rc0a : w.heap.size < w2.heap.size + 1 := by omega
    replace rc0b : w.heap.size < w2.heap.size + 1 + 1 := by omega
    replace rc0c : w.heap.size < w2.heap.size + 1 + 1 + 1 := by omega
    replace rc0n : ¬ w.heap.size = w2.heap.size := by omega
    replace HS := Lib.hid (HS.out.ext (Ext.trans (by repeat (first | with_reducible exact Ext.refl _ | with_reducible refine Ext.drew ?_ | with_reducible refine Ext.drewN ?_ _ | with_reducible refine Ext.alloc ?_ _ | with_reducible refine Ext.setCell ?_ (by first | omega | (simp; done) | (simp; omega)) _)) hx2))
    have X2 : Hid (Ext w w2) := Lib.hid (Ext.trans (by repeat (first | with_reducible exact X1.out | with_reducible refine Ext.drew ?_ | with_reducible refine Ext.drewN ?_ _ | with_reducible refine Ext.alloc ?_ _ | with_reducible refine Ext.setCell ?_ (by first | omega | (simp; done) | (simp; omega)) _)) hx2)
    clear X1 hx2 z2
    go_wp2_with fail
    (with_reducible refine (hopOut_any x2 32 false _ HB2.out).mono ?_)
    rintro e w3 ⟨rfl, hx3⟩
    replace c0_1 : w3.cell? ⟨w.heap.size, 1, none⟩ = some (.int .i64 x1) := hx3.has (by first | exact c0_1 | (simp [go_sem, World.cell?_alloc_past, c0_1, c0_2, rc0, rc0a, rc0b, rc0c, rc0n]; done))
    replace c0_2 : w3.cell? ⟨w.heap.size, 2, none⟩ = some (.int .i64 x2) := hx3.has (by first | exact c0_2 | (simp [go_sem, World.cell?_alloc_past, c0_1, c0_2, rc0, rc0a, rc0b, rc0c, rc0n]; done))
    have z3 := hx3.size
    try simp at z3
    replace rc0 : w.heap.size < w3.heap.size := by omega
    replace rc0a : w.heap.size < w3.heap.size + 1 := by omega
    replace rc0b : w.heap.size < w3.heap.size + 1 + 1 := by omega
    replace rc0c : w.heap.size < w3.heap.size + 1 + 1 + 1 := by omega
    replace rc0n : ¬ w.heap.size = w3.heap.size := by omega
    replace HS := Lib.hid (HS.out.ext (Ext.trans (by repeat (first | with_reducible exact Ext.refl _ | with_reducible refine Ext.drew ?_ | with_reducible refine Ext.drewN ?_ _ | with_reducible refine Ext.alloc ?_ _ | with_reducible refine Ext.setCell ?_ (by first | omega | (simp; done) | (simp; omega)) _)) hx3))
    have X3 : Hid (Ext w w3) := Lib.hid (Ext.trans (by repeat (first | with_reducible exact X2.out | with_reducible refine Ext.drew ?_ | with_reducible refine Ext.drewN ?_ _ | with_reducible refine Ext.alloc ?_ _ | with_reducible refine Ext.setCell ?_ (by first | omega | (simp; done) | (simp; omega)) _)) hx3)
    clear X2 hx3 z3
    go_wp2_with fail
    rw [Exit.noGoto_ret]
    go_ret
    exact ⟨by rw [HV.out]; try rfl, (by repeat (first | with_reducible exact X3.out | with_reducible refine Ext.drew ?_ | with_reducible refine Ext.drewN ?_ _ | with_reducible refine Ext.alloc ?_ _ | with_reducible refine Ext.setCell ?_ (by first | omega | (simp; done) | (simp; omega)) _))⟩
  by_cases g4 : y3 < 0 ∨ y3 ≥ 4294967296
  · have HV : Hid (V = 3) := Lib.hid (HMV.out.trans (if_pos (by unfold MayH; dsimp only; omega)))
    have HB0 : Hid (false = decide (x0 < 0 ∨ x0 ≥ 64)) := Lib.hid ((decide_eq_false g0).symm)
    have HB1 : Hid (false = decide (x1 < 0 ∨ x1 ≥ 32)) := Lib.hid ((decide_eq_false g1).symm)
    have HB2 : Hid (false = decide (x2 < 0 ∨ x2 ≥ 32)) := Lib.hid ((decide_eq_false g2).symm)
    have e3 : (x1 == x2) = false := by simpa using g3
    have HB4 : Hid (true = decide (y3 < 0 ∨ y3 ≥ 4294967296)) := Lib.hid ((decide_eq_true g4).symm)
    clear g0 g1 g2 g3 g4 hV hy4
    go_enter Try.func87, Try.ntmps87
    go_wp2_with fail
    go_step3
    go_wp2_with fail
    go_step3
    go_wp2_with fail
    (with_reducible refine (hopOut_any x0 64 false _ HB0.out).mono ?_)
    rintro e w1 ⟨rfl, hx1⟩
    have c0_1 : w1.cell? ⟨w.heap.size, 1, none⟩ = some (.int .i64 x1) := hx1.has (by first | fail | (simp [go_sem, World.cell?_alloc_past]; done))
    have c0_2 : w1.cell? ⟨w.heap.size, 2, none⟩ = some (.int .i64 x2) := hx1.has (by first | fail | (simp [go_sem, World.cell?_alloc_past]; done))
    have c0_3 : w1.cell? ⟨w.heap.size, 3, none⟩ = some (.int .i64 x3) := hx1.has (by first | fail | (simp [go_sem, World.cell?_alloc_past]; done))
    have z1 := hx1.size
    try simp at z1
    have rc0 : w.heap.size < w1.heap.size := by omega
    have rc0a : w.heap.size < w1.heap.size + 1 := by omega
    have rc0b : w.heap.size < w1.heap.size + 1 + 1 := by omega
    have rc0c : w.heap.size < w1.heap.size + 1 + 1 + 1 := by omega
    have rc0n : ¬ w.heap.size = w1.heap.size := by omega
    replace HS := Lib.hid (HS.out.ext (Ext.trans (by repeat (first | with_reducible exact Ext.refl _ | with_reducible refine Ext.drew ?_ | with_reducible refine Ext.drewN ?_ _ | with_reducible refine Ext.alloc ?_ _ | with_reducible refine Ext.setCell ?_ (by first | omega | (simp; done) | (simp; omega)) _)) hx1))
    have X1 : Hid (Ext w w1) := Lib.hid (Ext.trans (by repeat (first | with_reducible exact Ext.refl w | with_reducible refine Ext.drew ?_ | with_reducible refine Ext.drewN ?_ _ | with_reducible refine Ext.alloc ?_ _ | with_reducible refine Ext.setCell ?_ (by first | omega | (simp; done) | (simp; omega)) _)) hx1)
    clear hx1 z1
    go_wp2_with fail
    (with_reducible refine (hopOut_any x1 32 false _ HB1.out).mono ?_)
    rintro e w2 ⟨rfl, hx2⟩
    replace c0_1 : w2.cell? ⟨w.heap.size, 1, none⟩ = some (.int .i64 x1) := hx2.has (by first | exact c0_1 | (simp [go_sem, World.cell?_alloc_past, c0_1, c0_2, c0_3, rc0, rc0a, rc0b, rc0c, rc0n]; done))
    replace c0_2 : w2.cell? ⟨w.heap.size, 2, none⟩ = some (.int .i64 x2) := hx2.has (by first | exact c0_2 | (simp [go_sem, World.cell?_alloc_past, c0_1, c0_2, c0_3, rc0, rc0a, rc0b, rc0c, rc0n]; done))
    replace c0_3 : w2.cell? ⟨w.heap.size, 3, none⟩ = some (.int .i64 x3) := hx2.has (by first | exact c0_3 | (simp [go_sem, World.cell?_alloc_past, c0_1, c0_2, c0_3, rc0, rc0a, rc0b, rc0c, rc0n]; done))
    have z2 := hx2.size
    try simp at z2
    replace rc0 : w.heap.size < w2.heap.size := by omega
    replace rc0a : w.heap.size < w2.heap.size + 1 := by omega
    replace rc0b : w.heap.size < w2.heap.size + 1 + 1 := by omega
    replace rc0c : w.heap.size < w2.heap.size + 1 + 1 + 1 := by omega
    replace rc0n : ¬ w.heap.size = w2.heap.size := by omega
    replace HS := Lib.hid (HS.out.ext (Ext.trans (by repeat (first | with_reducible exact Ext.refl _ | with_reducible refine Ext.drew ?_ | with_reducible refine Ext.drewN ?_ _ | with_reducible refine Ext.alloc ?_ _ | with_reducible refine Ext.setCell ?_ (by first | omega | (simp; done) | (simp; omega)) _)) hx2))
    have X2 : Hid (Ext w w2) := Lib.hid (Ext.trans (by repeat (first | with_reducible exact X1.out | with_reducible refine Ext.drew ?_ | with_reducible refine Ext.drewN ?_ _ | with_reducible refine Ext.alloc ?_ _ | with_reducible refine Ext.setCell ?_ (by first | omega | (simp; done) | (simp; omega)) _)) hx2)
    clear X1 hx2 z2
    go_wp2_with fail
    (with_reducible refine (hopOut_any x2 32 false _ HB2.out).mono ?_)
    rintro e w3 ⟨rfl, hx3⟩
    replace c0_1 : w3.cell? ⟨w.heap.size, 1, none⟩ = some (.int .i64 x1) := hx3.has (by first | exact c0_1 | (simp [go_sem, World.cell?_alloc_past, c0_1, c0_2, c0_3, rc0, rc0a, rc0b, rc0c, rc0n]; done))
    replace c0_2 : w3.cell? ⟨w.heap.size, 2, none⟩ = some (.int .i64 x2) := hx3.has (by first | exact c0_2 | (simp [go_sem, World.cell?_alloc_past, c0_1, c0_2, c0_3, rc0, rc0a, rc0b, rc0c, rc0n]; done))
    replace c0_3 : w3.cell? ⟨w.heap.size, 3, none⟩ = some (.int .i64 x3) := hx3.has (by first | exact c0_3 | (simp [go_sem, World.cell?_alloc_past, c0_1, c0_2, c0_3, rc0, rc0a, rc0b, rc0c, rc0n]; done))
    have z3 := hx3.size
    try simp at z3
    replace rc0 : w.heap.size < w3.heap.size := by omega
    replace rc0a : w.heap.size < w3.heap.size + 1 := by omega
    replace rc0b : w.heap.size < w3.heap.size + 1 + 1 := by omega
    replace rc0c : w.heap.size < w3.heap.size + 1 + 1 + 1 := by omega
    replace rc0n : ¬ w.heap.size = w3.heap.size := by omega
    replace HS := Lib.hid (HS.out.ext (Ext.trans (by repeat (first | with_reducible exact Ext.refl _ | with_reducible refine Ext.drew ?_ | with_reducible refine Ext.drewN ?_ _ | with_reducible refine Ext.alloc ?_ _ | with_reducible refine Ext.setCell ?_ (by first | omega | (simp; done) | (simp; omega)) _)) hx3))
    have X3 : Hid (Ext w w3) := Lib.hid (Ext.trans (by repeat (first | with_reducible exact X2.out | with_reducible refine Ext.drew ?_ | with_reducible refine Ext.drewN ?_ _ | with_reducible refine Ext.alloc ?_ _ | with_reducible refine Ext.setCell ?_ (by first | omega | (simp; done) | (simp; omega)) _)) hx3)
    clear X2 hx3 z3
    go_wp2_with fail
    (with_reducible refine (hopOut_any y3 4294967296 true _ HB4.out).mono ?_)
    rintro e w4 ⟨rfl, hx4⟩
    have z4 := hx4.size
    try simp at z4
    replace HS := Lib.hid (HS.out.ext (Ext.trans (by repeat (first | with_reducible exact Ext.refl _ | with_reducible refine Ext.drew ?_ | with_reducible refine Ext.drewN ?_ _ | with_reducible refine Ext.alloc ?_ _ | with_reducible refine Ext.setCell ?_ (by first | omega | (simp; done) | (simp; omega)) _)) hx4))
    have X4 : Hid (Ext w w4) := Lib.hid (Ext.trans (by repeat (first | with_reducible exact X3.out | with_reducible refine Ext.drew ?_ | with_reducible refine Ext.drewN ?_ _ | with_reducible refine Ext.alloc ?_ _ | with_reducible refine Ext.setCell ?_ (by first | omega | (simp; done) | (simp; omega)) _)) hx4)
    clear c0_2 c0_3 c0_1 rc0 rc0a rc0b rc0c rc0n X3 hx4 z4
    go_wp2_with fail
    rw [Exit.noGoto_ret]
    go_ret
    exact ⟨by rw [HV.out]; try rfl, (by repeat (first | with_reducible exact X4.out | with_reducible refine Ext.drew ?_ | with_reducible refine Ext.drewN ?_ _ | with_reducible refine Ext.alloc ?_ _ | with_reducible refine Ext.setCell ?_ (by first | omega | (simp; done) | (simp; omega)) _))⟩
  have gm : MayH (x0, x1, x2, x3) := by unfold MayH; dsimp only; omega
  have HV2 := HMV.out.trans (if_neg (by simpa using gm))
  have e3 : (x1 == x2) = false := by simpa using g3
  have HB0 : Hid (false = decide (x0 < 0 ∨ x0 ≥ 64)) := Lib.hid ((decide_eq_false g0).symm)
  have HB1 : Hid (false = decide (x1 < 0 ∨ x1 ≥ 32)) := Lib.hid ((decide_eq_false g1).symm)
  have HB2 : Hid (false = decide (x2 < 0 ∨ x2 ≥ 32)) := Lib.hid ((decide_eq_false g2).symm)
  have HB4 : Hid (false = decide (y3 < 0 ∨ y3 ≥ 4294967296)) := Lib.hid ((decide_eq_false g4).symm)
  clear g0 g1 g2 g3 g4 gm hy4
  by_cases hn : n = 0
  · have HV : Hid (V = 0) := Lib.hid (by rw [HV2]; have h0 : l = [] := List.eq_nil_of_length_eq_zero (by omega); rw [h0]; rfl)
    subst hn
    clear hV HV2
    go_enter Try.func87, Try.ntmps87
    go_wp2_with fail
    go_step3
    go_wp2_with fail
    go_step3
    go_wp2_with fail
    (with_reducible refine (hopOut_any x0 64 false _ HB0.out).mono ?_)
    rintro e w1 ⟨rfl, hx1⟩
    have c0_1 : w1.cell? ⟨w.heap.size, 1, none⟩ = some (.int .i64 x1) := hx1.has (by first | fail | (simp [go_sem, World.cell?_alloc_past]; done))
    have c0_2 : w1.cell? ⟨w.heap.size, 2, none⟩ = some (.int .i64 x2) := hx1.has (by first | fail | (simp [go_sem, World.cell?_alloc_past]; done))
    have c0_3 : w1.cell? ⟨w.heap.size, 3, none⟩ = some (.int .i64 x3) := hx1.has (by first | fail | (simp [go_sem, World.cell?_alloc_past]; done))
    have z1 := hx1.size
    try simp at z1
    have rc0 : w.heap.size < w1.heap.size := by omega
    have rc0a : w.heap.size < w1.heap.size + 1 := by omega
    have rc0b : w.heap.size < w1.heap.size + 1 + 1 := by omega
    have rc0c : w.heap.size < w1.heap.size + 1 + 1 + 1 := by omega
    have rc0n : ¬ w.heap.size = w1.heap.size := by omega
    replace HS := Lib.hid (HS.out.ext (Ext.trans (by repeat (first | with_reducible exact Ext.refl _ | with_reducible refine Ext.drew ?_ | with_reducible refine Ext.drewN ?_ _ | with_reducible refine Ext.alloc ?_ _ | with_reducible refine Ext.setCell ?_ (by first | omega | (simp; done) | (simp; omega)) _)) hx1))
    have X1 : Hid (Ext w w1) := Lib.hid (Ext.trans (by repeat (first | with_reducible exact Ext.refl w | with_reducible refine Ext.drew ?_ | with_reducible refine Ext.drewN ?_ _ | with_reducible refine Ext.alloc ?_ _ | with_reducible refine Ext.setCell ?_ (by first | omega | (simp; done) | (simp; omega)) _)) hx1)
    clear hx1 z1
    go_wp2_with fail
    (with_reducible refine (hopOut_any x1 32 false _ HB1.out).mono ?_)
    rintro e w2 ⟨rfl, hx2⟩
    replace c0_1 : w2.cell? ⟨w.heap.size, 1, none⟩ = some (.int .i64 x1) := hx2.has (by first | exact c0_1 | (simp [go_sem, World.cell?_alloc_past, c0_1, c0_2, c0_3, rc0, rc0a, rc0b, rc0c, rc0n]; done))
    replace c0_2 : w2.cell? ⟨w.heap.size, 2, none⟩ = some (.int .i64 x2) := hx2.has (by first | exact c0_2 | (simp [go_sem, World.cell?_alloc_past, c0_1, c0_2, c0_3, rc0, rc0a, rc0b, rc0c, rc0n]; done))
    replace c0_3 : w2.cell? ⟨w.heap.size, 3, none⟩ = some (.int .i64 x3) := hx2.has (by first | exact c0_3 | (simp [go_sem, World.cell?_alloc_past, c0_1, c0_2, c0_3, rc0, rc0a, rc0b, rc0c, rc0n]; done))
    have z2 := hx2.size
    try simp at z2
    replace rc0 : w.heap.size < w2.heap.size := by omega
    replace rc0a : w.heap.size < w2.heap.size + 1 := by omega
    replace rc0b : w.heap.size < w2.heap.size + 1 + 1 := by omega
    replace rc0c : w.heap.size < w2.heap.size + 1 + 1 + 1 := by omega
    replace rc0n : ¬ w.heap.size = w2.heap.size := by omega
    replace HS := Lib.hid (HS.out.ext (Ext.trans (by repeat (first | with_reducible exact Ext.refl _ | with_reducible refine Ext.drew ?_ | with_reducible refine Ext.drewN ?_ _ | with_reducible refine Ext.alloc ?_ _ | with_reducible refine Ext.setCell ?_ (by first | omega | (simp; done) | (simp; omega)) _)) hx2))
    have X2 : Hid (Ext w w2) := Lib.hid (Ext.trans (by repeat (first | with_reducible exact X1.out | with_reducible refine Ext.drew ?_ | with_reducible refine Ext.drewN ?_ _ | with_reducible refine Ext.alloc ?_ _ | with_reducible refine Ext.setCell ?_ (by first | omega | (simp; done) | (simp; omega)) _)) hx2)
    clear X1 hx2 z2
    go_wp2_with fail
    (with_reducible refine (hopOut_any x2 32 false _ HB2.out).mono ?_)
    rintro e w3 ⟨rfl, hx3⟩
    replace c0_1 : w3.cell? ⟨w.heap.size, 1, none⟩ = some (.int .i64 x1) := hx3.has (by first | exact c0_1 | (simp [go_sem, World.cell?_alloc_past, c0_1, c0_2, c0_3, rc0, rc0a, rc0b, rc0c, rc0n]; done))
    replace c0_2 : w3.cell? ⟨w.heap.size, 2, none⟩ = some (.int .i64 x2) := hx3.has (by first | exact c0_2 | (simp [go_sem, World.cell?_alloc_past, c0_1, c0_2, c0_3, rc0, rc0a, rc0b, rc0c, rc0n]; done))
    replace c0_3 : w3.cell? ⟨w.heap.size, 3, none⟩ = some (.int .i64 x3) := hx3.has (by first | exact c0_3 | (simp [go_sem, World.cell?_alloc_past, c0_1, c0_2, c0_3, rc0, rc0a, rc0b, rc0c, rc0n]; done))
    have z3 := hx3.size
    try simp at z3
    replace rc0 : w.heap.size < w3.heap.size := by omega
    replace rc0a : w.heap.size < w3.heap.size + 1 := by omega
    replace rc0b : w.heap.size < w3.heap.size + 1 + 1 := by omega
    replace rc0c : w.heap.size < w3.heap.size + 1 + 1 + 1 := by omega
    replace rc0n : ¬ w.heap.size = w3.heap.size := by omega
    replace HS := Lib.hid (HS.out.ext (Ext.trans (by repeat (first | with_reducible exact Ext.refl _ | with_reducible refine Ext.drew ?_ | with_reducible refine Ext.drewN ?_ _ | with_reducible refine Ext.alloc ?_ _ | with_reducible refine Ext.setCell ?_ (by first | omega | (simp; done) | (simp; omega)) _)) hx3))
    have X3 : Hid (Ext w w3) := Lib.hid (Ext.trans (by repeat (first | with_reducible exact X2.out | with_reducible refine Ext.drew ?_ | with_reducible refine Ext.drewN ?_ _ | with_reducible refine Ext.alloc ?_ _ | with_reducible refine Ext.setCell ?_ (by first | omega | (simp; done) | (simp; omega)) _)) hx3)
    clear X2 hx3 z3
    go_wp2_with fail
    (with_reducible refine (hopOut_any y3 4294967296 false _ HB4.out).mono ?_)
    rintro e w4 ⟨rfl, hx4⟩
    have z4 := hx4.size
    try simp at z4
    replace HS := Lib.hid (HS.out.ext (Ext.trans (by repeat (first | with_reducible exact Ext.refl _ | with_reducible refine Ext.drew ?_ | with_reducible refine Ext.drewN ?_ _ | with_reducible refine Ext.alloc ?_ _ | with_reducible refine Ext.setCell ?_ (by first | omega | (simp; done) | (simp; omega)) _)) hx4))
    have X4 : Hid (Ext w w4) := Lib.hid (Ext.trans (by repeat (first | with_reducible exact X3.out | with_reducible refine Ext.drew ?_ | with_reducible refine Ext.drewN ?_ _ | with_reducible refine Ext.alloc ?_ _ | with_reducible refine Ext.setCell ?_ (by first | omega | (simp; done) | (simp; omega)) _)) hx4)
    clear c0_2 c0_3 c0_1 rc0 rc0a rc0b rc0c rc0n X3 hx4 z4
    go_wp2_with fail
    rw [Exit.noGoto_ret]
    go_ret
    exact ⟨by rw [HV.out]; try rfl, (by repeat (first | with_reducible exact X4.out | with_reducible refine Ext.drew ?_ | with_reducible refine Ext.drewN ?_ _ | with_reducible refine Ext.alloc ?_ _ | with_reducible refine Ext.setCell ?_ (by first | omega | (simp; done) | (simp; omega)) _))⟩
  have hn1 : 0 < n := by omega
  obtain ⟨m, rfl⟩ : ∃ m, n = m + 1 := ⟨n - 1, by omega⟩
  have hk1 : m < l.length := by omega
  obtain ⟨b1, o1, rfl, hb1, hc1⟩ := HS.out.rec_ hopC_len (show 0 < m + 1 from by omega)
  obtain ⟨z, hz⟩ : ∃ z, z = l[m] := ⟨_, rfl⟩
  have hlz : l[m]? = some z := by rw [hz]; exact List.getElem?_eq_getElem hk1
  have z_3 := hc1 m z hlz 3 _ rfl
  rw [← Nat.add_assoc] at z_3
  have hlast : l.getLast? = some z := by rw [List.getLast?_eq_getElem?, show l.length - 1 = m from by omega]; exact hlz
  rw [hlast] at HV2
  obtain ⟨z0, z1, z2, z3⟩ := z
  simp only at HV2 z_3
  have hwm : IntKind.i64.wrap (((m + 1 : Nat) : Int) - 1) = (m : Int) := by rw [IntWalk.i64_in _ (by omega)]; omega
  have hwm2 : IntKind.i64.wrap (((m : Int) + 1) - 1) = (m : Int) := by rw [IntWalk.i64_in _ (by omega)]; omega
  have hwm3 : IntKind.i64.wrap (m : Int) = (m : Int) := IntWalk.i64_in _ (by omega)
  have hmm2 : (m : Int) < (m : Int) + 1 := by omega
  have hmm : (m : Int) < ((m + 1 : Nat) : Int) := by omega
  have rz := hb1
  have rza : b1 < w.heap.size + 1 := by omega
  have rzb : b1 < w.heap.size + 1 + 1 := by omega
  have rzc : b1 < w.heap.size + 1 + 1 + 1 := by omega
  have rzn : ¬ b1 = w.heap.size := by omega
  have en : (((m + 1 : Nat) : Int) == 0) = false := by simp; omega
  have en2 : ((m : Int) + 1 == 0) = false := by simp; omega
  clear hc1 hz hlz hlast hl hV hk1
  by_cases hlt : x3 < z3
  · have HV : Hid (V = 9) := Lib.hid (HV2.trans (if_pos hlt))
    clear HV2
    go_enter Try.func87, Try.ntmps87
    go_wp2_with fail
    go_step3
    go_wp2_with fail
    go_step3
    go_wp2_with fail
    (with_reducible refine (hopOut_any x0 64 false _ HB0.out).mono ?_)
    rintro e w1 ⟨rfl, hx1⟩
    replace z_3 : w1.cell? ⟨b1, o1 + m * 4 + 3, none⟩ = some (.int .i64 z3) := hx1.has (by first | exact z_3 | (simp [go_sem, World.cell?_alloc_past, z_3, rz, rza, rzb, rzc, rzn]; done))
    have c0_1 : w1.cell? ⟨w.heap.size, 1, none⟩ = some (.int .i64 x1) := hx1.has (by first | fail | (simp [go_sem, World.cell?_alloc_past, z_3, rz, rza, rzb, rzc, rzn]; done))
    have c0_2 : w1.cell? ⟨w.heap.size, 2, none⟩ = some (.int .i64 x2) := hx1.has (by first | fail | (simp [go_sem, World.cell?_alloc_past, z_3, rz, rza, rzb, rzc, rzn]; done))
    have c0_3 : w1.cell? ⟨w.heap.size, 3, none⟩ = some (.int .i64 x3) := hx1.has (by first | fail | (simp [go_sem, World.cell?_alloc_past, z_3, rz, rza, rzb, rzc, rzn]; done))
    have z1 := hx1.size
    try simp at z1
    have lt_z_c0 : b1 < w.heap.size := by omega
    have ne_z_c0 : ¬ b1 = w.heap.size := by omega
    have ne_c0_z : ¬ w.heap.size = b1 := by omega
    replace rz : b1 < w1.heap.size := by omega
    replace rza : b1 < w1.heap.size + 1 := by omega
    replace rzb : b1 < w1.heap.size + 1 + 1 := by omega
    replace rzc : b1 < w1.heap.size + 1 + 1 + 1 := by omega
    replace rzn : ¬ b1 = w1.heap.size := by omega
    have rc0 : w.heap.size < w1.heap.size := by omega
    have rc0a : w.heap.size < w1.heap.size + 1 := by omega
    have rc0b : w.heap.size < w1.heap.size + 1 + 1 := by omega
    have rc0c : w.heap.size < w1.heap.size + 1 + 1 + 1 := by omega
    have rc0n : ¬ w.heap.size = w1.heap.size := by omega
    replace HS := Lib.hid (HS.out.ext (Ext.trans (by repeat (first | with_reducible exact Ext.refl _ | with_reducible refine Ext.drew ?_ | with_reducible refine Ext.drewN ?_ _ | with_reducible refine Ext.alloc ?_ _ | with_reducible refine Ext.setCell ?_ (by first | omega | (simp; done) | (simp; omega)) _)) hx1))
    have X1 : Hid (Ext w w1) := Lib.hid (Ext.trans (by repeat (first | with_reducible exact Ext.refl w | with_reducible refine Ext.drew ?_ | with_reducible refine Ext.drewN ?_ _ | with_reducible refine Ext.alloc ?_ _ | with_reducible refine Ext.setCell ?_ (by first | omega | (simp; done) | (simp; omega)) _)) hx1)
    clear hx1 z1
    go_wp2_with fail
    (with_reducible refine (hopOut_any x1 32 false _ HB1.out).mono ?_)
    rintro e w2 ⟨rfl, hx2⟩
    replace z_3 : w2.cell? ⟨b1, o1 + m * 4 + 3, none⟩ = some (.int .i64 z3) := hx2.has (by first | exact z_3 | (simp [go_sem, World.cell?_alloc_past, z_3, c0_1, c0_2, c0_3, ne_z_c0, ne_c0_z, rz, rza, rzb, rzc, rzn, rc0, rc0a, rc0b, rc0c, rc0n]; done))
    replace c0_1 : w2.cell? ⟨w.heap.size, 1, none⟩ = some (.int .i64 x1) := hx2.has (by first | exact c0_1 | (simp [go_sem, World.cell?_alloc_past, z_3, c0_1, c0_2, c0_3, ne_z_c0, ne_c0_z, rz, rza, rzb, rzc, rzn, rc0, rc0a, rc0b, rc0c, rc0n]; done))
    replace c0_2 : w2.cell? ⟨w.heap.size, 2, none⟩ = some (.int .i64 x2) := hx2.has (by first | exact c0_2 | (simp [go_sem, World.cell?_alloc_past, z_3, c0_1, c0_2, c0_3, ne_z_c0, ne_c0_z, rz, rza, rzb, rzc, rzn, rc0, rc0a, rc0b, rc0c, rc0n]; done))
    replace c0_3 : w2.cell? ⟨w.heap.size, 3, none⟩ = some (.int .i64 x3) := hx2.has (by first | exact c0_3 | (simp [go_sem, World.cell?_alloc_past, z_3, c0_1, c0_2, c0_3, ne_z_c0, ne_c0_z, rz, rza, rzb, rzc, rzn, rc0, rc0a, rc0b, rc0c, rc0n]; done))
    have z2 := hx2.size
    try simp at z2
    replace rz : b1 < w2.heap.size := by omega
    replace rza : b1 < w2.heap.size + 1 := by omega
    replace rzb : b1 < w2.heap.size + 1 + 1 := by omega
    replace rzc : b1 < w2.heap.size + 1 + 1 + 1 := by omega
    replace rzn : ¬ b1 = w2.heap.size := by omega
    replace rc0 : w.heap.size < w2.heap.size := by omega
    replace rc0a : w.heap.size < w2.heap.size + 1 := by omega
    replace rc0b : w.heap.size < w2.heap.size + 1 + 1 := by omega
    replace rc0c : w.heap.size < w2.heap.size + 1 + 1 + 1 := by omega
    replace rc0n : ¬ w.heap.size = w2.heap.size := by omega
    replace HS := Lib.hid (HS.out.ext (Ext.trans (by repeat (first | with_reducible exact Ext.refl _ | with_reducible refine Ext.drew ?_ | with_reducible refine Ext.drewN ?_ _ | with_reducible refine Ext.alloc ?_ _ | with_reducible refine Ext.setCell ?_ (by first | omega | (simp; done) | (simp; omega)) _)) hx2))
    have X2 : Hid (Ext w w2) := Lib.hid (Ext.trans (by repeat (first | with_reducible exact X1.out | with_reducible refine Ext.drew ?_ | with_reducible refine Ext.drewN ?_ _ | with_reducible refine Ext.alloc ?_ _ | with_reducible refine Ext.setCell ?_ (by first | omega | (simp; done) | (simp; omega)) _)) hx2)
    clear X1 hx2 z2
    go_wp2_with fail
    (with_reducible refine (hopOut_any x2 32 false _ HB2.out).mono ?_)
    rintro e w3 ⟨rfl, hx3⟩
    replace z_3 : w3.cell? ⟨b1, o1 + m * 4 + 3, none⟩ = some (.int .i64 z3) := hx3.has (by first | exact z_3 | (simp [go_sem, World.cell?_alloc_past, z_3, c0_1, c0_2, c0_3, ne_z_c0, ne_c0_z, rz, rza, rzb, rzc, rzn, rc0, rc0a, rc0b, rc0c, rc0n]; done))
    replace c0_1 : w3.cell? ⟨w.heap.size, 1, none⟩ = some (.int .i64 x1) := hx3.has (by first | exact c0_1 | (simp [go_sem, World.cell?_alloc_past, z_3, c0_1, c0_2, c0_3, ne_z_c0, ne_c0_z, rz, rza, rzb, rzc, rzn, rc0, rc0a, rc0b, rc0c, rc0n]; done))
    replace c0_2 : w3.cell? ⟨w.heap.size, 2, none⟩ = some (.int .i64 x2) := hx3.has (by first | exact c0_2 | (simp [go_sem, World.cell?_alloc_past, z_3, c0_1, c0_2, c0_3, ne_z_c0, ne_c0_z, rz, rza, rzb, rzc, rzn, rc0, rc0a, rc0b, rc0c, rc0n]; done))
    replace c0_3 : w3.cell? ⟨w.heap.size, 3, none⟩ = some (.int .i64 x3) := hx3.has (by first | exact c0_3 | (simp [go_sem, World.cell?_alloc_past, z_3, c0_1, c0_2, c0_3, ne_z_c0, ne_c0_z, rz, rza, rzb, rzc, rzn, rc0, rc0a, rc0b, rc0c, rc0n]; done))
    have z3 := hx3.size
    try simp at z3
    replace rz : b1 < w3.heap.size := by omega
    replace rza : b1 < w3.heap.size + 1 := by omega
    replace rzb : b1 < w3.heap.size + 1 + 1 := by omega
    replace rzc : b1 < w3.heap.size + 1 + 1 + 1 := by omega
    replace rzn : ¬ b1 = w3.heap.size := by omega
    replace rc0 : w.heap.size < w3.heap.size := by omega
    replace rc0a : w.heap.size < w3.heap.size + 1 := by omega
    replace rc0b : w.heap.size < w3.heap.size + 1 + 1 := by omega
    replace rc0c : w.heap.size < w3.heap.size + 1 + 1 + 1 := by omega
    replace rc0n : ¬ w.heap.size = w3.heap.size := by omega
    replace HS := Lib.hid (HS.out.ext (Ext.trans (by repeat (first | with_reducible exact Ext.refl _ | with_reducible refine Ext.drew ?_ | with_reducible refine Ext.drewN ?_ _ | with_reducible refine Ext.alloc ?_ _ | with_reducible refine Ext.setCell ?_ (by first | omega | (simp; done) | (simp; omega)) _)) hx3))
    have X3 : Hid (Ext w w3) := Lib.hid (Ext.trans (by repeat (first | with_reducible exact X2.out | with_reducible refine Ext.drew ?_ | with_reducible refine Ext.drewN ?_ _ | with_reducible refine Ext.alloc ?_ _ | with_reducible refine Ext.setCell ?_ (by first | omega | (simp; done) | (simp; omega)) _)) hx3)
    clear X2 hx3 z3
    go_wp2_with fail
    (with_reducible refine (hopOut_any y3 4294967296 false _ HB4.out).mono ?_)
    rintro e w4 ⟨rfl, hx4⟩
    replace z_3 : w4.cell? ⟨b1, o1 + m * 4 + 3, none⟩ = some (.int .i64 z3) := hx4.has (by first | exact z_3 | (simp [go_sem, World.cell?_alloc_past, z_3, c0_1, c0_2, c0_3, ne_z_c0, ne_c0_z, rz, rza, rzb, rzc, rzn, rc0, rc0a, rc0b, rc0c, rc0n]; done))
    replace c0_3 : w4.cell? ⟨w.heap.size, 3, none⟩ = some (.int .i64 x3) := hx4.has (by first | exact c0_3 | (simp [go_sem, World.cell?_alloc_past, z_3, c0_1, c0_2, c0_3, ne_z_c0, ne_c0_z, rz, rza, rzb, rzc, rzn, rc0, rc0a, rc0b, rc0c, rc0n]; done))
    have z4 := hx4.size
    try simp at z4
    replace rz : b1 < w4.heap.size := by omega
    replace rza : b1 < w4.heap.size + 1 := by omega
    replace rzb : b1 < w4.heap.size + 1 + 1 := by omega
    replace rzc : b1 < w4.heap.size + 1 + 1 + 1 := by omega
    replace rzn : ¬ b1 = w4.heap.size := by omega
    replace rc0 : w.heap.size < w4.heap.size := by omega
    replace rc0a : w.heap.size < w4.heap.size + 1 := by omega
    replace rc0b : w.heap.size < w4.heap.size + 1 + 1 := by omega
    replace rc0c : w.heap.size < w4.heap.size + 1 + 1 + 1 := by omega
    replace rc0n : ¬ w.heap.size = w4.heap.size := by omega
    replace HS := Lib.hid (HS.out.ext (Ext.trans (by repeat (first | with_reducible exact Ext.refl _ | with_reducible refine Ext.drew ?_ | with_reducible refine Ext.drewN ?_ _ | with_reducible refine Ext.alloc ?_ _ | with_reducible refine Ext.setCell ?_ (by first | omega | (simp; done) | (simp; omega)) _)) hx4))
    have X4 : Hid (Ext w w4) := Lib.hid (Ext.trans (by repeat (first | with_reducible exact X3.out | with_reducible refine Ext.drew ?_ | with_reducible refine Ext.drewN ?_ _ | with_reducible refine Ext.alloc ?_ _ | with_reducible refine Ext.setCell ?_ (by first | omega | (simp; done) | (simp; omega)) _)) hx4)
    clear c0_2 c0_1 X3 hx4 z4
    go_wp2_with fail
    refine wp_region_held_drew (S := fun w' => w'.cell? ⟨w.heap.size, 3, none⟩ = some (.int .i64 x3) ∧ w'.cell? ⟨b1, o1 + m * 4 + 3, none⟩ = some (.int .i64 z3)) (by kernel_rfl) (by first | exact ⟨c0_3, z_3⟩ | (simp [go_sem, World.cell?_alloc_past, z_3, c0_3, ne_z_c0, ne_c0_z, rz, rza, rzb, rzc, rzn, rc0, rc0a, rc0b, rc0c, rc0n]; done)) (fun hHeld => ?_)
    (refine' take_in 0 rfl (by kernel_rfl) (by kernel_rfl) (by kernel_rfl) (fun _ _ _ h => h) (by rfl) (by assumption) ?_ ?_; rotate_left; focus (intro w hSw; (try dsimp only at hSw); go_simp; try with_reducible rfl)); try simp only [Act.put, List.setIfInBounds_toArray, List.set_cons_zero, List.set_cons_succ]
    (refine' take_in 1 rfl (by kernel_rfl) (by kernel_rfl) (by kernel_rfl) (fun _ _ _ h => h) (by rfl) (by assumption) ?_ ?_; rotate_left; focus (intro w hSw; (try dsimp only at hSw); go_simp; try with_reducible rfl)); try simp only [Act.put, List.setIfInBounds_toArray, List.set_cons_zero, List.set_cons_succ]
    (refine' take_in 2 rfl (by kernel_rfl) (by kernel_rfl) (by kernel_rfl) (fun _ _ _ h => h) (by rfl) (by assumption) ?_ ?_; rotate_left; focus (intro w hSw; (try dsimp only at hSw); go_simp; try with_reducible rfl)); try simp only [Act.put, List.setIfInBounds_toArray, List.set_cons_zero, List.set_cons_succ]
    (refine' take_in 3 rfl (by kernel_rfl) (by kernel_rfl) (by kernel_rfl) (fun _ _ _ h => h) (by rfl) (by assumption) ?_ ?_; rotate_left; focus (intro w hSw; (try dsimp only at hSw); go_simp; try with_reducible rfl)); try simp only [Act.put, List.setIfInBounds_toArray, List.set_cons_zero, List.set_cons_succ]
    (refine' take_in 4 rfl (by kernel_rfl) (by kernel_rfl) (by kernel_rfl) (fun _ _ _ h => h) (by rfl) (by assumption) ?_ ?_; rotate_left; focus (intro w hSw; (try dsimp only at hSw); go_simp; try with_reducible rfl)); try simp only [Act.put, List.setIfInBounds_toArray, List.set_cons_zero, List.set_cons_succ]
    (refine' take_in 5 rfl (by kernel_rfl) (by kernel_rfl) (by kernel_rfl) (fun _ _ _ h => h) (by rfl) (by assumption) ?_ ?_; rotate_left; focus (intro w hSw; (try dsimp only at hSw); go_simp; try with_reducible rfl)); try simp only [Act.put, List.setIfInBounds_toArray, List.set_cons_zero, List.set_cons_succ]
    (refine' take_in 6 rfl (by kernel_rfl) (by kernel_rfl) (by kernel_rfl) (fun _ _ _ h => h) (by rfl) (by assumption) ?_ ?_; rotate_left; focus (intro w hSw; (try dsimp only at hSw); go_simp; try with_reducible rfl)); try simp only [Act.put, List.setIfInBounds_toArray, List.set_cons_zero, List.set_cons_succ]
    (refine' take_in 7 rfl (by kernel_rfl) (by kernel_rfl) (by kernel_rfl) (fun _ _ _ h => h) (by rfl) (by assumption) ?_ ?_; rotate_left; focus (intro w hSw; (try dsimp only at hSw); go_simp; try with_reducible rfl)); try simp only [Act.put, List.setIfInBounds_toArray, List.set_cons_zero, List.set_cons_succ]
    (refine' take_in 8 rfl (by kernel_rfl) (by kernel_rfl) (by kernel_rfl) (fun _ _ _ h => h) (by rfl) (by assumption) ?_ ?_; rotate_left; focus (intro w hSw; (try dsimp only at hSw); go_simp; try with_reducible rfl)); try simp only [Act.put, List.setIfInBounds_toArray, List.set_cons_zero, List.set_cons_succ]
    (refine' take_in 9 rfl (by kernel_rfl) (by kernel_rfl) (by kernel_rfl) (fun _ _ _ h => h) (by rfl) (by assumption) ?_ ?_; rotate_left; focus (intro w hSw; (try dsimp only at hSw); go_simp; try with_reducible rfl)); try simp only [Act.put, List.setIfInBounds_toArray, List.set_cons_zero, List.set_cons_succ]
    refine wpAnyH_done (by kernel_rfl) ?_ _
    go_wp2_with fail
    rw [Exit.noGoto_ret]
    go_ret
    exact ⟨by rw [HV.out]; try rfl, (by repeat (first | with_reducible exact X4.out | with_reducible refine Ext.drew ?_ | with_reducible refine Ext.drewN ?_ _ | with_reducible refine Ext.alloc ?_ _ | with_reducible refine Ext.setCell ?_ (by first | omega | (simp; done) | (simp; omega)) _))⟩
  · have HV : Hid (V = 0) := Lib.hid (HV2.trans (if_neg hlt))
    clear HV2
    go_enter Try.func87, Try.ntmps87
    go_wp2_with fail
    go_step3
    go_wp2_with fail
    go_step3
    go_wp2_with fail
    (with_reducible refine (hopOut_any x0 64 false _ HB0.out).mono ?_)
    rintro e w1 ⟨rfl, hx1⟩
    replace z_3 : w1.cell? ⟨b1, o1 + m * 4 + 3, none⟩ = some (.int .i64 z3) := hx1.has (by first | exact z_3 | (simp [go_sem, World.cell?_alloc_past, z_3, rz, rza, rzb, rzc, rzn]; done))
    have c0_1 : w1.cell? ⟨w.heap.size, 1, none⟩ = some (.int .i64 x1) := hx1.has (by first | fail | (simp [go_sem, World.cell?_alloc_past, z_3, rz, rza, rzb, rzc, rzn]; done))
    have c0_2 : w1.cell? ⟨w.heap.size, 2, none⟩ = some (.int .i64 x2) := hx1.has (by first | fail | (simp [go_sem, World.cell?_alloc_past, z_3, rz, rza, rzb, rzc, rzn]; done))
    have c0_3 : w1.cell? ⟨w.heap.size, 3, none⟩ = some (.int .i64 x3) := hx1.has (by first | fail | (simp [go_sem, World.cell?_alloc_past, z_3, rz, rza, rzb, rzc, rzn]; done))
    have z1 := hx1.size
    try simp at z1
    have lt_z_c0 : b1 < w.heap.size := by omega
    have ne_z_c0 : ¬ b1 = w.heap.size := by omega
    have ne_c0_z : ¬ w.heap.size = b1 := by omega
    replace rz : b1 < w1.heap.size := by omega
    replace rza : b1 < w1.heap.size + 1 := by omega
    replace rzb : b1 < w1.heap.size + 1 + 1 := by omega
    replace rzc : b1 < w1.heap.size + 1 + 1 + 1 := by omega
    replace rzn : ¬ b1 = w1.heap.size := by omega
    have rc0 : w.heap.size < w1.heap.size := by omega
    have rc0a : w.heap.size < w1.heap.size + 1 := by omega
    have rc0b : w.heap.size < w1.heap.size + 1 + 1 := by omega
    have rc0c : w.heap.size < w1.heap.size + 1 + 1 + 1 := by omega
    have rc0n : ¬ w.heap.size = w1.heap.size := by omega
    replace HS := Lib.hid (HS.out.ext (Ext.trans (by repeat (first | with_reducible exact Ext.refl _ | with_reducible refine Ext.drew ?_ | with_reducible refine Ext.drewN ?_ _ | with_reducible refine Ext.alloc ?_ _ | with_reducible refine Ext.setCell ?_ (by first | omega | (simp; done) | (simp; omega)) _)) hx1))
    have X1 : Hid (Ext w w1) := Lib.hid (Ext.trans (by repeat (first | with_reducible exact Ext.refl w | with_reducible refine Ext.drew ?_ | with_reducible refine Ext.drewN ?_ _ | with_reducible refine Ext.alloc ?_ _ | with_reducible refine Ext.setCell ?_ (by first | omega | (simp; done) | (simp; omega)) _)) hx1)
    clear hx1 z1
    go_wp2_with fail
    (with_reducible refine (hopOut_any x1 32 false _ HB1.out).mono ?_)
    rintro e w2 ⟨rfl, hx2⟩
    replace z_3 : w2.cell? ⟨b1, o1 + m * 4 + 3, none⟩ = some (.int .i64 z3) := hx2.has (by first | exact z_3 | (simp [go_sem, World.cell?_alloc_past, z_3, c0_1, c0_2, c0_3, ne_z_c0, ne_c0_z, rz, rza, rzb, rzc, rzn, rc0, rc0a, rc0b, rc0c, rc0n]; done))
    replace c0_1 : w2.cell? ⟨w.heap.size, 1, none⟩ = some (.int .i64 x1) := hx2.has (by first | exact c0_1 | (simp [go_sem, World.cell?_alloc_past, z_3, c0_1, c0_2, c0_3, ne_z_c0, ne_c0_z, rz, rza, rzb, rzc, rzn, rc0, rc0a, rc0b, rc0c, rc0n]; done))
    replace c0_2 : w2.cell? ⟨w.heap.size, 2, none⟩ = some (.int .i64 x2) := hx2.has (by first | exact c0_2 | (simp [go_sem, World.cell?_alloc_past, z_3, c0_1, c0_2, c0_3, ne_z_c0, ne_c0_z, rz, rza, rzb, rzc, rzn, rc0, rc0a, rc0b, rc0c, rc0n]; done))
    replace c0_3 : w2.cell? ⟨w.heap.size, 3, none⟩ = some (.int .i64 x3) := hx2.has (by first | exact c0_3 | (simp [go_sem, World.cell?_alloc_past, z_3, c0_1, c0_2, c0_3, ne_z_c0, ne_c0_z, rz, rza, rzb, rzc, rzn, rc0, rc0a, rc0b, rc0c, rc0n]; done))
    have z2 := hx2.size
    try simp at z2
    replace rz : b1 < w2.heap.size := by omega
    replace rza : b1 < w2.heap.size + 1 := by omega
    replace rzb : b1 < w2.heap.size + 1 + 1 := by omega
    replace rzc : b1 < w2.heap.size + 1 + 1 + 1 := by omega
    replace rzn : ¬ b1 = w2.heap.size := by omega
    replace rc0 : w.heap.size < w2.heap.size := by omega
    replace rc0a : w.heap.size < w2.heap.size + 1 := by omega
    replace rc0b : w.heap.size < w2.heap.size + 1 + 1 := by omega
    replace rc0c : w.heap.size < w2.heap.size + 1 + 1 + 1 := by omega
    replace rc0n : ¬ w.heap.size = w2.heap.size := by omega
    replace HS := Lib.hid (HS.out.ext (Ext.trans (by repeat (first | with_reducible exact Ext.refl _ | with_reducible refine Ext.drew ?_ | with_reducible refine Ext.drewN ?_ _ | with_reducible refine Ext.alloc ?_ _ | with_reducible refine Ext.setCell ?_ (by first | omega | (simp; done) | (simp; omega)) _)) hx2))
    have X2 : Hid (Ext w w2) := Lib.hid (Ext.trans (by repeat (first | with_reducible exact X1.out | with_reducible refine Ext.drew ?_ | with_reducible refine Ext.drewN ?_ _ | with_reducible refine Ext.alloc ?_ _ | with_reducible refine Ext.setCell ?_ (by first | omega | (simp; done) | (simp; omega)) _)) hx2)
    clear X1 hx2 z2
    go_wp2_with fail
    (with_reducible refine (hopOut_any x2 32 false _ HB2.out).mono ?_)
    rintro e w3 ⟨rfl, hx3⟩
    replace z_3 : w3.cell? ⟨b1, o1 + m * 4 + 3, none⟩ = some (.int .i64 z3) := hx3.has (by first | exact z_3 | (simp [go_sem, World.cell?_alloc_past, z_3, c0_1, c0_2, c0_3, ne_z_c0, ne_c0_z, rz, rza, rzb, rzc, rzn, rc0, rc0a, rc0b, rc0c, rc0n]; done))
    replace c0_1 : w3.cell? ⟨w.heap.size, 1, none⟩ = some (.int .i64 x1) := hx3.has (by first | exact c0_1 | (simp [go_sem, World.cell?_alloc_past, z_3, c0_1, c0_2, c0_3, ne_z_c0, ne_c0_z, rz, rza, rzb, rzc, rzn, rc0, rc0a, rc0b, rc0c, rc0n]; done))
    replace c0_2 : w3.cell? ⟨w.heap.size, 2, none⟩ = some (.int .i64 x2) := hx3.has (by first | exact c0_2 | (simp [go_sem, World.cell?_alloc_past, z_3, c0_1, c0_2, c0_3, ne_z_c0, ne_c0_z, rz, rza, rzb, rzc, rzn, rc0, rc0a, rc0b, rc0c, rc0n]; done))
    replace c0_3 : w3.cell? ⟨w.heap.size, 3, none⟩ = some (.int .i64 x3) := hx3.has (by first | exact c0_3 | (simp [go_sem, World.cell?_alloc_past, z_3, c0_1, c0_2, c0_3, ne_z_c0, ne_c0_z, rz, rza, rzb, rzc, rzn, rc0, rc0a, rc0b, rc0c, rc0n]; done))
    have z3 := hx3.size
    try simp at z3
    replace rz : b1 < w3.heap.size := by omega
    replace rza : b1 < w3.heap.size + 1 := by omega
    replace rzb : b1 < w3.heap.size + 1 + 1 := by omega
    replace rzc : b1 < w3.heap.size + 1 + 1 + 1 := by omega
    replace rzn : ¬ b1 = w3.heap.size := by omega
    replace rc0 : w.heap.size < w3.heap.size := by omega
    replace rc0a : w.heap.size < w3.heap.size + 1 := by omega
    replace rc0b : w.heap.size < w3.heap.size + 1 + 1 := by omega
    replace rc0c : w.heap.size < w3.heap.size + 1 + 1 + 1 := by omega
    replace rc0n : ¬ w.heap.size = w3.heap.size := by omega
    replace HS := Lib.hid (HS.out.ext (Ext.trans (by repeat (first | with_reducible exact Ext.refl _ | with_reducible refine Ext.drew ?_ | with_reducible refine Ext.drewN ?_ _ | with_reducible refine Ext.alloc ?_ _ | with_reducible refine Ext.setCell ?_ (by first | omega | (simp; done) | (simp; omega)) _)) hx3))
    have X3 : Hid (Ext w w3) := Lib.hid (Ext.trans (by repeat (first | with_reducible exact X2.out | with_reducible refine Ext.drew ?_ | with_reducible refine Ext.drewN ?_ _ | with_reducible refine Ext.alloc ?_ _ | with_reducible refine Ext.setCell ?_ (by first | omega | (simp; done) | (simp; omega)) _)) hx3)
    clear X2 hx3 z3
    go_wp2_with fail
    (with_reducible refine (hopOut_any y3 4294967296 false _ HB4.out).mono ?_)
    rintro e w4 ⟨rfl, hx4⟩
    replace z_3 : w4.cell? ⟨b1, o1 + m * 4 + 3, none⟩ = some (.int .i64 z3) := hx4.has (by first | exact z_3 | (simp [go_sem, World.cell?_alloc_past, z_3, c0_1, c0_2, c0_3, ne_z_c0, ne_c0_z, rz, rza, rzb, rzc, rzn, rc0, rc0a, rc0b, rc0c, rc0n]; done))
    replace c0_3 : w4.cell? ⟨w.heap.size, 3, none⟩ = some (.int .i64 x3) := hx4.has (by first | exact c0_3 | (simp [go_sem, World.cell?_alloc_past, z_3, c0_1, c0_2, c0_3, ne_z_c0, ne_c0_z, rz, rza, rzb, rzc, rzn, rc0, rc0a, rc0b, rc0c, rc0n]; done))
    have z4 := hx4.size
    try simp at z4
    replace rz : b1 < w4.heap.size := by omega
    replace rza : b1 < w4.heap.size + 1 := by omega
    replace rzb : b1 < w4.heap.size + 1 + 1 := by omega
    replace rzc : b1 < w4.heap.size + 1 + 1 + 1 := by omega
    replace rzn : ¬ b1 = w4.heap.size := by omega
    replace rc0 : w.heap.size < w4.heap.size := by omega
    replace rc0a : w.heap.size < w4.heap.size + 1 := by omega
    replace rc0b : w.heap.size < w4.heap.size + 1 + 1 := by omega
    replace rc0c : w.heap.size < w4.heap.size + 1 + 1 + 1 := by omega
    replace rc0n : ¬ w.heap.size = w4.heap.size := by omega
    replace HS := Lib.hid (HS.out.ext (Ext.trans (by repeat (first | with_reducible exact Ext.refl _ | with_reducible refine Ext.drew ?_ | with_reducible refine Ext.drewN ?_ _ | with_reducible refine Ext.alloc ?_ _ | with_reducible refine Ext.setCell ?_ (by first | omega | (simp; done) | (simp; omega)) _)) hx4))
    have X4 : Hid (Ext w w4) := Lib.hid (Ext.trans (by repeat (first | with_reducible exact X3.out | with_reducible refine Ext.drew ?_ | with_reducible refine Ext.drewN ?_ _ | with_reducible refine Ext.alloc ?_ _ | with_reducible refine Ext.setCell ?_ (by first | omega | (simp; done) | (simp; omega)) _)) hx4)
    clear c0_2 c0_1 X3 hx4 z4
    go_wp2_with fail
    refine wp_region_held_drew (S := fun w' => w'.cell? ⟨w.heap.size, 3, none⟩ = some (.int .i64 x3) ∧ w'.cell? ⟨b1, o1 + m * 4 + 3, none⟩ = some (.int .i64 z3)) (by kernel_rfl) (by first | exact ⟨c0_3, z_3⟩ | (simp [go_sem, World.cell?_alloc_past, z_3, c0_3, ne_z_c0, ne_c0_z, rz, rza, rzb, rzc, rzn, rc0, rc0a, rc0b, rc0c, rc0n]; done)) (fun hHeld => ?_)
    (refine' take_in 0 rfl (by kernel_rfl) (by kernel_rfl) (by kernel_rfl) (fun _ _ _ h => h) (by rfl) (by assumption) ?_ ?_; rotate_left; focus (intro w hSw; (try dsimp only at hSw); go_simp; try with_reducible rfl)); try simp only [Act.put, List.setIfInBounds_toArray, List.set_cons_zero, List.set_cons_succ]
    (refine' take_in 1 rfl (by kernel_rfl) (by kernel_rfl) (by kernel_rfl) (fun _ _ _ h => h) (by rfl) (by assumption) ?_ ?_; rotate_left; focus (intro w hSw; (try dsimp only at hSw); go_simp; try with_reducible rfl)); try simp only [Act.put, List.setIfInBounds_toArray, List.set_cons_zero, List.set_cons_succ]
    (refine' take_in 2 rfl (by kernel_rfl) (by kernel_rfl) (by kernel_rfl) (fun _ _ _ h => h) (by rfl) (by assumption) ?_ ?_; rotate_left; focus (intro w hSw; (try dsimp only at hSw); go_simp; try with_reducible rfl)); try simp only [Act.put, List.setIfInBounds_toArray, List.set_cons_zero, List.set_cons_succ]
    (refine' take_in 3 rfl (by kernel_rfl) (by kernel_rfl) (by kernel_rfl) (fun _ _ _ h => h) (by rfl) (by assumption) ?_ ?_; rotate_left; focus (intro w hSw; (try dsimp only at hSw); go_simp; try with_reducible rfl)); try simp only [Act.put, List.setIfInBounds_toArray, List.set_cons_zero, List.set_cons_succ]
    (refine' take_in 4 rfl (by kernel_rfl) (by kernel_rfl) (by kernel_rfl) (fun _ _ _ h => h) (by rfl) (by assumption) ?_ ?_; rotate_left; focus (intro w hSw; (try dsimp only at hSw); go_simp; try with_reducible rfl)); try simp only [Act.put, List.setIfInBounds_toArray, List.set_cons_zero, List.set_cons_succ]
    (refine' take_in 5 rfl (by kernel_rfl) (by kernel_rfl) (by kernel_rfl) (fun _ _ _ h => h) (by rfl) (by assumption) ?_ ?_; rotate_left; focus (intro w hSw; (try dsimp only at hSw); go_simp; try with_reducible rfl)); try simp only [Act.put, List.setIfInBounds_toArray, List.set_cons_zero, List.set_cons_succ]
    (refine' take_in 6 rfl (by kernel_rfl) (by kernel_rfl) (by kernel_rfl) (fun _ _ _ h => h) (by rfl) (by assumption) ?_ ?_; rotate_left; focus (intro w hSw; (try dsimp only at hSw); go_simp; try with_reducible rfl)); try simp only [Act.put, List.setIfInBounds_toArray, List.set_cons_zero, List.set_cons_succ]
    (refine' take_in 7 rfl (by kernel_rfl) (by kernel_rfl) (by kernel_rfl) (fun _ _ _ h => h) (by rfl) (by assumption) ?_ ?_; rotate_left; focus (intro w hSw; (try dsimp only at hSw); go_simp; try with_reducible rfl)); try simp only [Act.put, List.setIfInBounds_toArray, List.set_cons_zero, List.set_cons_succ]
    (refine' take_in 8 rfl (by kernel_rfl) (by kernel_rfl) (by kernel_rfl) (fun _ _ _ h => h) (by rfl) (by assumption) ?_ ?_; rotate_left; focus (intro w hSw; (try dsimp only at hSw); go_simp; try with_reducible rfl)); try simp only [Act.put, List.setIfInBounds_toArray, List.set_cons_zero, List.set_cons_succ]
    (refine' take_in 9 rfl (by kernel_rfl) (by kernel_rfl) (by kernel_rfl) (fun _ _ _ h => h) (by rfl) (by assumption) ?_ ?_; rotate_left; focus (intro w hSw; (try dsimp only at hSw); go_simp; try with_reducible rfl)); try simp only [Act.put, List.setIfInBounds_toArray, List.set_cons_zero, List.set_cons_succ]
    refine wpAnyH_done (by kernel_rfl) ?_ _
    go_wp2_with fail
    rw [Exit.noGoto_ret]
    go_ret
    exact ⟨by rw [HV.out]; try rfl, (by repeat (first | with_reducible exact X4.out | with_reducible refine Ext.drew ?_ | with_reducible refine Ext.drewN ?_ _ | with_reducible refine Ext.alloc ?_ _ | with_reducible refine Ext.setCell ?_ (by first | omega | (simp; done) | (simp; omega)) _))⟩
end
section
open Go.RowKit Go.ChangeShapes Go.WideShapes Go.Deep Go.Joins
theorem Sl.htake {w : World} {A : Option Addr} {n c k : Nat} {l : List (Int × Int × Int × Int)} (h : Sl w 4 A n c (l.flatMap hopC)) (hk : k ≤ n) : Sl w 4 A k c ((l.take k).flatMap hopC) := by
  have h1 := h.take hk
  rwa [flat_take hopC_len] at h1
theorem hopMay_ev (x0 x1 x2 x3 e : Int) (A : Option Addr) (c n : Nat) (l : List (Int × Int × Int × Int)) (w : World) (hx : Fits .i64 x3) (h : Sl w 4 A n c (l.flatMap hopC)) (he : e = mayV (x0, x1, x2, x3) l) :
    Calls Try.prog 87 #[.agg #[.int .i64 x0, .int .i64 x1, .int .i64 x2, .int .i64 x3], .slice A n c] w fun r w' => r = .returned (.int .i64 e) ∧ Ext w w' := by
  rw [he]
  exact hopMay_any x0 x1 x2 x3 A c n l w hx h
theorem mayV_no {x : (Int × Int × Int × Int)} {l : List (Int × Int × Int × Int)} (h : ¬ MayH x) : mayV x l = 3 := if_pos h
theorem mayV_next {x y : (Int × Int × Int × Int)} {l : List (Int × Int × Int × Int)} {m : Nat} (h : MayH x) (hy : l[m]? = some y) : mayV x (l.take (m + 1)) = if x.2.2.2 < y.2.2.2 then 9 else 0 := by
  obtain ⟨hm, e⟩ := List.getElem?_eq_some_iff.1 hy
  unfold mayV
  rw [if_neg (by simpa using h), List.take_succ_eq_append_getElem hm, List.getLast?_append]
  simp [e]
set_option maxRecDepth 100000 in
set_option maxHeartbeats 4000000 in
theorem hopCheck_any (A : Option Addr) (n c : Nat) (l : List (Int × Int × Int × Int)) (w : World) (h : Sl w 4 A n c (l.flatMap hopC)) (hf : ∀ x ∈ l, Fits .i64 x.2.2.2) :
    Calls Try.prog 17 #[.slice A n c] w fun e w' => e = .returned (.tuple #[.int .i64 (chkH l).1, .int .i64 (chkH l).2]) ∧ Ext w w' := by
  have hl := h.rlen hopC_len (by decide)
  have s1 := h.small
  have hnc : n ≤ c := h.2.1
  have HS := Lib.hid h
  have HL := Lib.hid hl
  have HFt := Lib.hid hf
  obtain ⟨⟨f1, f2⟩, hF⟩ : ∃ F, F = chkH l := ⟨_, rfl⟩
  rw [← hF]
  have HF := Lib.hid hF
  by_cases h32 : 4096 < l.length
  · have hff : (f1, f2) = (4, 4096) := by rw [hF]; exact chkG_long h32
    obtain ⟨rfl, rfl⟩ := Prod.mk.inj hff
    have e0 : (n : Int) > 4096 := by omega
    clear h hl hF hff h32 hf
    go_enter Try.func17, Try.ntmps17
    go_wp2
    refine bodyPost_ret (v := .tuple #[.int .i64 4, .int .i64 4096]) (by simp [results, Try.results17]; try rfl) rfl ⟨rfl, Ext.refl _⟩
  have e0 : ¬ (n : Int) > 4096 := by omega
  have HN := Lib.hid h32
  have hn4 : n ≤ 4096 := by omega
  clear h hl hF h32 hf
  go_enter Try.func17, Try.ntmps17
  go_wp2
  go_loopg [12] n (fun gh i wx => gh ≤ n ∧ i = .int .i64 ((n - gh : Nat) : Int) ∧ Hid (∀ j, j < n - gh → badH l j = 0) ∧ Ext w wx)
  case atStart => exact ⟨Nat.le_refl _, by simp, Lib.hid (by intro j hj; omega), Ext.refl _⟩
  case round =>
    obtain ⟨hg, hi, hp, hx⟩ := hrel
    obtain ⟨k, hk⟩ : ∃ k, k = n - gk := ⟨_, rfl⟩
    rw [← hk] at hi hp
    subst hi
    have XR := Lib.hid hx
    by_cases hz : gk = 0
    · have hkn : ¬ (k : Int) < n := by omega
      have hff : (f1, f2) = (0, 0) := by
        rw [HF.out]
        exact chkG_ok HN.out (fun j hj => hp.out j (by have := HL.out; omega))
      obtain ⟨rfl, rfl⟩ := Prod.mk.inj hff
      clear hx hk hg hz hff
      go_wp2
      refine bodyPost_ret (v := .tuple #[.int .i64 0, .int .i64 0]) (by simp [results, Try.results17]; try rfl) rfl ⟨rfl, XR.out⟩
    · have HT := Lib.hid ((HS.out.htake (k := k) (by omega)).ext hx)
      have hkc : (k : Int) ≤ c := by omega
      have hkc2 : k ≤ c := by omega
      have hrm := Ext.size hx
      have hkn : (k : Int) < n := by omega
      have hk1 : k < l.length := by have := HL.out; omega
      obtain ⟨b1, o1, rfl, hb1, hc1⟩ := HS.out.rec_ hopC_len (show 0 < n from by omega)
      obtain ⟨xv, hxx⟩ : ∃ x, x = l[k] := ⟨_, rfl⟩
      have hlk : l[k]? = some xv := by rw [hxx]; exact List.getElem?_eq_getElem hk1
      have x_0 := XR.out.has (hc1 k xv hlk 0 _ rfl)
      have x_1 := XR.out.has (hc1 k xv hlk 1 _ rfl)
      have x_2 := XR.out.has (hc1 k xv hlk 2 _ rfl)
      have x_3 := XR.out.has (hc1 k xv hlk 3 _ rfl)
      have hfx := HFt.out xv (List.mem_of_getElem? hlk)
      have hbv : badH l k = mayV xv (l.take k) := by unfold badH; rw [hlk]
      obtain ⟨x0, x1, x2, x3⟩ := xv
      simp only at x_0 x_1 x_2 x_3 hfx
      rw [Nat.add_zero] at x_0
      rw [← Nat.add_assoc] at x_1 x_2 x_3
      have HK := Lib.hid (And.intro hk (And.intro hg hz))
      have HQ := Lib.hid hlk
      have HFX := Lib.hid hfx
      have hbw : b1 < wr.heap.size := by omega
      obtain ⟨ev, hev⟩ : ∃ e, e = mayV (x0, x1, x2, x3) (l.take k) := ⟨_, rfl⟩
      rw [← hev] at hbv
      have HEV := Lib.hid hev
      have HBV := Lib.hid hbv
      by_cases hE : ev = 0
      · subst hE
        clear hx hk hg hz hc1 hxx hk1 hlk hbv hfx hev
        go_wp2_with fail
        refine wp_region_held_drew (S := fun w' => w'.cell? ⟨wr.heap.size, 0, none⟩ = some (.int .i64 x0) ∧ w'.cell? ⟨wr.heap.size, 1, none⟩ = some (.int .i64 x1) ∧ w'.cell? ⟨wr.heap.size, 2, none⟩ = some (.int .i64 x2) ∧ w'.cell? ⟨wr.heap.size, 3, none⟩ = some (.int .i64 x3)) (by kernel_rfl) (by first | exact ⟨c0_0, c0_1, c0_2, c0_3⟩ | (simp [go_sem, World.cell?_alloc_past, x_0, x_1, x_2, x_3]; done)) (fun hHeld => ?_)
        (refine' take_in 0 rfl (by kernel_rfl) (by kernel_rfl) (by kernel_rfl) (fun _ _ _ h => h) (by rfl) (by assumption) ?_ ?_; rotate_left; focus (intro w hSw; (try dsimp only at hSw); go_simp; try with_reducible rfl)); try simp only [Act.put, List.setIfInBounds_toArray, List.set_cons_zero, List.set_cons_succ]
        (refine' take_in 1 rfl (by kernel_rfl) (by kernel_rfl) (by kernel_rfl) (fun _ _ _ h => h) (by rfl) (by assumption) ?_ ?_; rotate_left; focus (intro w hSw; (try dsimp only at hSw); go_simp; try with_reducible rfl)); try simp only [Act.put, List.setIfInBounds_toArray, List.set_cons_zero, List.set_cons_succ]
        (refine' take_in 2 rfl (by kernel_rfl) (by kernel_rfl) (by kernel_rfl) (fun _ _ _ h => h) (by rfl) (by assumption) ?_ ?_; rotate_left; focus (intro w hSw; (try dsimp only at hSw); go_simp; try with_reducible rfl)); try simp only [Act.put, List.setIfInBounds_toArray, List.set_cons_zero, List.set_cons_succ]
        (refine' take_in 3 rfl (by kernel_rfl) (by kernel_rfl) (by kernel_rfl) (fun _ _ _ h => h) (by rfl) (by assumption) ?_ ?_; rotate_left; focus (intro w hSw; (try dsimp only at hSw); go_simp; try with_reducible rfl)); try simp only [Act.put, List.setIfInBounds_toArray, List.set_cons_zero, List.set_cons_succ]
        refine' next_in 4 rfl (by kernel_rfl) (by rfl) (fun K hK => ?_)
        go_simp
        (with_reducible refine (hopMay_ev x0 x1 x2 x3 0 (some ⟨b1, o1, none⟩) c k (l.take k) _ HFX.out (HT.out.ext (by repeat (first | with_reducible exact Ext.refl _ | with_reducible refine Ext.drew ?_ | with_reducible refine Ext.drewN ?_ _ | with_reducible refine Ext.alloc ?_ _ | with_reducible refine Ext.setCell ?_ (by first | omega | (simp; done) | (simp; omega)) _))) HEV.out).mono ?_)
        rintro e w11 ⟨rfl, hx11⟩
        have c0_0 : w11.cell? ⟨wr.heap.size, 0, none⟩ = some (.int .i64 x0) := hx11.has (by first | fail | (simp [go_sem, World.cell?_alloc_past, x_0, x_1, x_2, x_3]; done))
        have c0_1 : w11.cell? ⟨wr.heap.size, 1, none⟩ = some (.int .i64 x1) := hx11.has (by first | fail | (simp [go_sem, World.cell?_alloc_past, x_0, x_1, x_2, x_3]; done))
        have c0_2 : w11.cell? ⟨wr.heap.size, 2, none⟩ = some (.int .i64 x2) := hx11.has (by first | fail | (simp [go_sem, World.cell?_alloc_past, x_0, x_1, x_2, x_3]; done))
        have c0_3 : w11.cell? ⟨wr.heap.size, 3, none⟩ = some (.int .i64 x3) := hx11.has (by first | fail | (simp [go_sem, World.cell?_alloc_past, x_0, x_1, x_2, x_3]; done))
        have z11 := hx11.size
        try simp at z11
        have rc0 : wr.heap.size < w11.heap.size := by omega
        have rc0a : wr.heap.size < w11.heap.size + 1 := by omega
        have rc0b : wr.heap.size < w11.heap.size + 1 + 1 := by omega
        have rc0c : wr.heap.size < w11.heap.size + 1 + 1 + 1 := by omega
        have rc0n : ¬ wr.heap.size = w11.heap.size := by omega
        replace HT := Lib.hid (HT.out.ext (Ext.trans (by repeat (first | with_reducible exact Ext.refl _ | with_reducible refine Ext.drew ?_ | with_reducible refine Ext.drewN ?_ _ | with_reducible refine Ext.alloc ?_ _ | with_reducible refine Ext.setCell ?_ (by first | omega | (simp; done) | (simp; omega)) _)) hx11))
        have X11 : Hid (Ext w w11) := Lib.hid (Ext.trans (by repeat (first | with_reducible exact XR.out | with_reducible refine Ext.drew ?_ | with_reducible refine Ext.drewN ?_ _ | with_reducible refine Ext.alloc ?_ _ | with_reducible refine Ext.setCell ?_ (by first | omega | (simp; done) | (simp; omega)) _)) hx11)
        clear x_1 x_0 x_3 x_2 XR hx11 z11
        refine hK.out _ _ (by (first | exact ⟨c0_0, c0_1, c0_2, c0_3⟩ | (simp [go_sem, World.cell?_alloc_past, c0_0, c0_1, c0_2, c0_3, rc0, rc0a, rc0b, rc0c, rc0n]; done))) (fun hHeld => ?_); clear hK K; try simp only [Act.put, List.setIfInBounds_toArray, List.set_cons_zero, List.set_cons_succ]
        (refine' take_in 5 rfl (by kernel_rfl) (by kernel_rfl) (by kernel_rfl) (fun _ _ _ h => h) (by rfl) (by assumption) ?_ ?_; rotate_left; focus (intro w hSw; (try dsimp only at hSw); go_simp; try with_reducible rfl)); try simp only [Act.put, List.setIfInBounds_toArray, List.set_cons_zero, List.set_cons_succ]
        refine wpAnyH_done (by kernel_rfl) ?_ _
        go_wp2_with fail
        go_roundg (gk - 1)
        case measure => have := HK.out; omega
        case rel =>
          refine ⟨by have := HK.out; omega, num_eq (by have := HK.out; omega), Lib.hid ?_, (by repeat (first | with_reducible exact X11.out | with_reducible refine Ext.drew ?_ | with_reducible refine Ext.drewN ?_ _ | with_reducible refine Ext.alloc ?_ _ | with_reducible refine Ext.setCell ?_ (by first | omega | (simp; done) | (simp; omega)) _))⟩
          intro j hj
          rcases Nat.lt_or_ge j k with h | h
          · exact hp.out j h
          · have e : j = k := by have := HK.out; omega
            subst e
            exact HBV.out
      · skip
        have hff : (f1, f2) = (ev, ((k : Nat) : Int)) := by
          rw [HF.out, ← hbv]
          exact chkG_bad HN.out hk1 (by rw [hbv]; exact hE) hp.out
        obtain ⟨rfl, rfl⟩ := Prod.mk.inj hff
        have e7 : (f1 != 0) = true := by simpa using hE
        have e8 : (f1 == 0) = false := by simpa using hE
        clear hx hk hg hz hc1 hxx hk1 hlk hbv hfx hev hE hff
        go_wp2_with fail
        refine wp_region_held_drew (S := fun w' => w'.cell? ⟨wr.heap.size, 0, none⟩ = some (.int .i64 x0) ∧ w'.cell? ⟨wr.heap.size, 1, none⟩ = some (.int .i64 x1) ∧ w'.cell? ⟨wr.heap.size, 2, none⟩ = some (.int .i64 x2) ∧ w'.cell? ⟨wr.heap.size, 3, none⟩ = some (.int .i64 x3)) (by kernel_rfl) (by first | exact ⟨c0_0, c0_1, c0_2, c0_3⟩ | (simp [go_sem, World.cell?_alloc_past, x_0, x_1, x_2, x_3]; done)) (fun hHeld => ?_)
        (refine' take_in 0 rfl (by kernel_rfl) (by kernel_rfl) (by kernel_rfl) (fun _ _ _ h => h) (by rfl) (by assumption) ?_ ?_; rotate_left; focus (intro w hSw; (try dsimp only at hSw); go_simp; try with_reducible rfl)); try simp only [Act.put, List.setIfInBounds_toArray, List.set_cons_zero, List.set_cons_succ]
        (refine' take_in 1 rfl (by kernel_rfl) (by kernel_rfl) (by kernel_rfl) (fun _ _ _ h => h) (by rfl) (by assumption) ?_ ?_; rotate_left; focus (intro w hSw; (try dsimp only at hSw); go_simp; try with_reducible rfl)); try simp only [Act.put, List.setIfInBounds_toArray, List.set_cons_zero, List.set_cons_succ]
        (refine' take_in 2 rfl (by kernel_rfl) (by kernel_rfl) (by kernel_rfl) (fun _ _ _ h => h) (by rfl) (by assumption) ?_ ?_; rotate_left; focus (intro w hSw; (try dsimp only at hSw); go_simp; try with_reducible rfl)); try simp only [Act.put, List.setIfInBounds_toArray, List.set_cons_zero, List.set_cons_succ]
        (refine' take_in 3 rfl (by kernel_rfl) (by kernel_rfl) (by kernel_rfl) (fun _ _ _ h => h) (by rfl) (by assumption) ?_ ?_; rotate_left; focus (intro w hSw; (try dsimp only at hSw); go_simp; try with_reducible rfl)); try simp only [Act.put, List.setIfInBounds_toArray, List.set_cons_zero, List.set_cons_succ]
        refine' next_in 4 rfl (by kernel_rfl) (by rfl) (fun K hK => ?_)
        go_simp
        (with_reducible refine (hopMay_ev x0 x1 x2 x3 f1 (some ⟨b1, o1, none⟩) c k (l.take k) _ HFX.out (HT.out.ext (by repeat (first | with_reducible exact Ext.refl _ | with_reducible refine Ext.drew ?_ | with_reducible refine Ext.drewN ?_ _ | with_reducible refine Ext.alloc ?_ _ | with_reducible refine Ext.setCell ?_ (by first | omega | (simp; done) | (simp; omega)) _))) HEV.out).mono ?_)
        rintro e w11 ⟨rfl, hx11⟩
        have c0_0 : w11.cell? ⟨wr.heap.size, 0, none⟩ = some (.int .i64 x0) := hx11.has (by first | fail | (simp [go_sem, World.cell?_alloc_past, x_0, x_1, x_2, x_3]; done))
        have c0_1 : w11.cell? ⟨wr.heap.size, 1, none⟩ = some (.int .i64 x1) := hx11.has (by first | fail | (simp [go_sem, World.cell?_alloc_past, x_0, x_1, x_2, x_3]; done))
        have c0_2 : w11.cell? ⟨wr.heap.size, 2, none⟩ = some (.int .i64 x2) := hx11.has (by first | fail | (simp [go_sem, World.cell?_alloc_past, x_0, x_1, x_2, x_3]; done))
        have c0_3 : w11.cell? ⟨wr.heap.size, 3, none⟩ = some (.int .i64 x3) := hx11.has (by first | fail | (simp [go_sem, World.cell?_alloc_past, x_0, x_1, x_2, x_3]; done))
        have z11 := hx11.size
        try simp at z11
        have rc0 : wr.heap.size < w11.heap.size := by omega
        have rc0a : wr.heap.size < w11.heap.size + 1 := by omega
        have rc0b : wr.heap.size < w11.heap.size + 1 + 1 := by omega
        have rc0c : wr.heap.size < w11.heap.size + 1 + 1 + 1 := by omega
        have rc0n : ¬ wr.heap.size = w11.heap.size := by omega
        replace HT := Lib.hid (HT.out.ext (Ext.trans (by repeat (first | with_reducible exact Ext.refl _ | with_reducible refine Ext.drew ?_ | with_reducible refine Ext.drewN ?_ _ | with_reducible refine Ext.alloc ?_ _ | with_reducible refine Ext.setCell ?_ (by first | omega | (simp; done) | (simp; omega)) _)) hx11))
        have X11 : Hid (Ext w w11) := Lib.hid (Ext.trans (by repeat (first | with_reducible exact XR.out | with_reducible refine Ext.drew ?_ | with_reducible refine Ext.drewN ?_ _ | with_reducible refine Ext.alloc ?_ _ | with_reducible refine Ext.setCell ?_ (by first | omega | (simp; done) | (simp; omega)) _)) hx11)
        clear x_1 x_0 x_3 x_2 XR hx11 z11
        refine hK.out _ _ (by (first | exact ⟨c0_0, c0_1, c0_2, c0_3⟩ | (simp [go_sem, World.cell?_alloc_past, c0_0, c0_1, c0_2, c0_3, rc0, rc0a, rc0b, rc0c, rc0n]; done))) (fun hHeld => ?_); clear hK K; try simp only [Act.put, List.setIfInBounds_toArray, List.set_cons_zero, List.set_cons_succ]
        (refine' take_in 5 rfl (by kernel_rfl) (by kernel_rfl) (by kernel_rfl) (fun _ _ _ h => h) (by rfl) (by assumption) ?_ ?_; rotate_left; focus (intro w hSw; (try dsimp only at hSw); go_simp; try with_reducible rfl)); try simp only [Act.put, List.setIfInBounds_toArray, List.set_cons_zero, List.set_cons_succ]
        refine wpAnyH_done (by kernel_rfl) ?_ _
        go_wp2_with fail
        refine bodyPost_ret (v := .tuple #[.int .i64 f1, .int .i64 (k : Int)]) (by simp [results, Try.results17]; try rfl) rfl ⟨rfl, ?_⟩
        exact (by repeat (first | with_reducible exact X11.out | with_reducible refine Ext.drew ?_ | with_reducible refine Ext.drewN ?_ _ | with_reducible refine Ext.alloc ?_ _ | with_reducible refine Ext.setCell ?_ (by first | omega | (simp; done) | (simp; omega)) _))
theorem hopCheck_ev (A : Option Addr) (n c : Nat) (l : List (Int × Int × Int × Int)) (f1 f2 : Int) (w : World) (h : Sl w 4 A n c (l.flatMap hopC)) (hf : ∀ x ∈ l, Fits .i64 x.2.2.2) (he : (f1, f2) = chkH l) :
    Calls Try.prog 17 #[.slice A n c] w fun e w' => e = .returned (.tuple #[.int .i64 f1, .int .i64 f2]) ∧ Ext w w' := by
  have h := hopCheck_any A n c l w h hf
  rw [← he] at h
  exact h
end
section
open Go.RowKit Go.ChangeShapes Go.WideShapes Go.Deep Go.Joins
def nxtV (l : List (Int × Int × Int × Int)) (u : Int) : Int × Bool := if (chkH l).1 ≠ 0 then (0, false) else match l.head? with | some x => if 1 ≤ u ∧ u ≤ 1048576 then (x.2.2.2 + u, true) else (0, false) | none => (0, false)
theorem chkH_zero {l : List (Int × Int × Int × Int)} (h : (chkH l).1 = 0) : chkH l = (0, 0) ∧ l.length ≤ 4096 ∧ ∀ (j : Nat) x, l[j]? = some x → mayV x (l.take j) = 0 := by
  obtain ⟨h1, h2, h3⟩ := chkG_zero h
  refine ⟨h1, h2, fun j x hx => ?_⟩
  have h4 := h3 j (List.getElem?_eq_some_iff.1 hx).1
  unfold badH at h4
  rw [hx] at h4
  exact h4
theorem mayV_may {x : (Int × Int × Int × Int)} {l : List (Int × Int × Int × Int)} (h : mayV x l = 0) : MayH x := by
  by_cases hm : MayH x
  · exact hm
  · rw [mayV_no hm] at h; simp at h
set_option maxRecDepth 100000 in
set_option maxHeartbeats 4000000 in
theorem hopNext_none (A : Option Addr) (n c : Nat) (l : List (Int × Int × Int × Int)) (u f1 f2 : Int) (b : Bool) (w : World) (h : Sl w 4 A n c (l.flatMap hopC)) (hf : ∀ x ∈ l, Fits .i64 x.2.2.2) (hF : (f1, f2) = chkH l) (hb : b = decide (1 ≤ u ∧ u ≤ 1048576)) (hc : f1 ≠ 0 ∨ n = 0 ∨ b = false) :
    Calls Try.prog 19 #[.slice A n c, .int .i64 u] w fun e w' => e = .returned (.tuple #[.int .i64 0, .bool false]) ∧ Ext w w' := by
  have s1 := h.small
  have HS := Lib.hid h
  have HFt := Lib.hid hf
  have HF := Lib.hid hF
  have HB := Lib.hid hb
  clear h hf hF hb
  go_enter Try.func19, Try.ntmps19
  go_wp2_with fail
  (with_reducible refine (hopCheck_ev A n c l f1 f2 _ (HS.out.ext (by repeat (first | with_reducible exact Ext.refl _ | with_reducible refine Ext.drew ?_ | with_reducible refine Ext.drewN ?_ _ | with_reducible refine Ext.alloc ?_ _ | with_reducible refine Ext.setCell ?_ (by first | omega | (simp; done) | (simp; omega)) _))) HFt.out HF.out).mono ?_)
  rintro e w1 ⟨rfl, hx1⟩
  have z1 := hx1.size
  try simp at z1
  replace HS := Lib.hid (HS.out.ext (Ext.trans (by repeat (first | with_reducible exact Ext.refl _ | with_reducible refine Ext.drew ?_ | with_reducible refine Ext.drewN ?_ _ | with_reducible refine Ext.alloc ?_ _ | with_reducible refine Ext.setCell ?_ (by first | omega | (simp; done) | (simp; omega)) _)) hx1))
  have X1 : Hid (Ext w w1) := Lib.hid (Ext.trans (by repeat (first | with_reducible exact Ext.refl w | with_reducible refine Ext.drew ?_ | with_reducible refine Ext.drewN ?_ _ | with_reducible refine Ext.alloc ?_ _ | with_reducible refine Ext.setCell ?_ (by first | omega | (simp; done) | (simp; omega)) _)) hx1)
  clear hx1 z1
  by_cases h1 : f1 ≠ 0
  · have e1 : (f1 != 0) = true := by simpa using h1
    go_wp2_with fail
    refine bodyPost_ret (v := .tuple #[.int .i64 0, .bool false]) (by simp [results, Try.results19]; try rfl) rfl ⟨rfl, ?_⟩
    exact (by repeat (first | with_reducible exact X1.out | with_reducible refine Ext.drew ?_ | with_reducible refine Ext.drewN ?_ _ | with_reducible refine Ext.alloc ?_ _ | with_reducible refine Ext.setCell ?_ (by first | omega | (simp; done) | (simp; omega)) _))
  · have e1 : (f1 != 0) = false := by simpa using h1
    by_cases h2 : n = 0
    · subst h2
      go_wp2_with fail
      refine bodyPost_ret (v := .tuple #[.int .i64 0, .bool false]) (by simp [results, Try.results19]; try rfl) rfl ⟨rfl, ?_⟩
      exact (by repeat (first | with_reducible exact X1.out | with_reducible refine Ext.drew ?_ | with_reducible refine Ext.drewN ?_ _ | with_reducible refine Ext.alloc ?_ _ | with_reducible refine Ext.setCell ?_ (by first | omega | (simp; done) | (simp; omega)) _))
    · have e2 : ((n : Int) == 0) = false := by simp; omega
      go_wp2_with fail
      have hb0 : b = false := by exact hc.elim (fun h => absurd h (by simpa using h1)) (fun h => h.elim (fun h => absurd h h2) id)
      subst hb0
      (with_reducible refine (hopTime_any u false _ HB.out).mono ?_)
      rintro e w2 ⟨rfl, hx2⟩
      have z2 := hx2.size
      try simp at z2
      replace HS := Lib.hid (HS.out.ext (Ext.trans (by repeat (first | with_reducible exact Ext.refl _ | with_reducible refine Ext.drew ?_ | with_reducible refine Ext.drewN ?_ _ | with_reducible refine Ext.alloc ?_ _ | with_reducible refine Ext.setCell ?_ (by first | omega | (simp; done) | (simp; omega)) _)) hx2))
      have X2 : Hid (Ext w w2) := Lib.hid (Ext.trans (by repeat (first | with_reducible exact X1.out | with_reducible refine Ext.drew ?_ | with_reducible refine Ext.drewN ?_ _ | with_reducible refine Ext.alloc ?_ _ | with_reducible refine Ext.setCell ?_ (by first | omega | (simp; done) | (simp; omega)) _)) hx2)
      clear X1 hx2 z2
      go_wp2_with fail
      refine bodyPost_ret (v := .tuple #[.int .i64 0, .bool false]) (by simp [results, Try.results19]; try rfl) rfl ⟨rfl, ?_⟩
      exact (by repeat (first | with_reducible exact X2.out | with_reducible refine Ext.drew ?_ | with_reducible refine Ext.drewN ?_ _ | with_reducible refine Ext.alloc ?_ _ | with_reducible refine Ext.setCell ?_ (by first | omega | (simp; done) | (simp; omega)) _))
set_option maxRecDepth 100000 in
set_option maxHeartbeats 4000000 in
theorem hopNext_some (A : Option Addr) (n c : Nat) (x0 x1 x2 x3 v : Int) (l : List (Int × Int × Int × Int)) (u : Int) (w : World) (h : Sl w 4 A n c (l.flatMap hopC)) (hf : ∀ x ∈ l, Fits .i64 x.2.2.2) (hF : ((0 : Int), (0 : Int)) = chkH l) (hb : true = decide (1 ≤ u ∧ u ≤ 1048576)) (hx : l[0]? = some (x0, x1, x2, x3)) (hm : 1 ≤ x3 ∧ x3 ≤ 4294967296) (hv : v = x3 + u) :
    Calls Try.prog 19 #[.slice A n c, .int .i64 u] w fun e w' => e = .returned (.tuple #[.int .i64 v, .bool true]) ∧ Ext w w' := by
  have s1 := h.small
  have hl := h.rlen hopC_len (by decide)
  have hu := of_decide_eq_true hb.symm
  have hn0 : 0 < n := by have := (List.getElem?_eq_some_iff.1 hx).1; omega
  have hn1 : (0 : Int) < n := by omega
  have e2 : ((n : Int) == 0) = false := by simp; omega
  have hwr : IntKind.i64.wrap (x3 + u) = v := by rw [hv]; exact IntWalk.i64_in _ (by omega)
  obtain ⟨b1, o1, rfl, hb1, hc1⟩ := h.rec_ hopC_len hn0
  have x_3 := hc1 0 _ hx 3 _ rfl
  simp only [Nat.zero_mul, Nat.zero_add] at x_3
  have HS := Lib.hid h
  have HFt := Lib.hid hf
  have HF := Lib.hid hF
  have HB := Lib.hid hb
  clear h hf hF hb hx hm hv hu hc1 hl
  go_enter Try.func19, Try.ntmps19
  go_wp2_with fail
  (with_reducible refine (hopCheck_ev (some ⟨b1, o1, none⟩) n c l 0 0 _ (HS.out.ext (by repeat (first | with_reducible exact Ext.refl _ | with_reducible refine Ext.drew ?_ | with_reducible refine Ext.drewN ?_ _ | with_reducible refine Ext.alloc ?_ _ | with_reducible refine Ext.setCell ?_ (by first | omega | (simp; done) | (simp; omega)) _))) HFt.out HF.out).mono ?_)
  rintro e w1 ⟨rfl, hx1⟩
  replace x_3 : w1.cell? ⟨b1, o1 + 3, none⟩ = some (.int .i64 x3) := hx1.has (by first | exact x_3 | (simp [go_sem, World.cell?_alloc_past, x_3]; done))
  have z1 := hx1.size
  try simp at z1
  have rx : b1 < w1.heap.size := by omega
  have rxa : b1 < w1.heap.size + 1 := by omega
  have rxb : b1 < w1.heap.size + 1 + 1 := by omega
  have rxc : b1 < w1.heap.size + 1 + 1 + 1 := by omega
  have rxn : ¬ b1 = w1.heap.size := by omega
  replace HS := Lib.hid (HS.out.ext (Ext.trans (by repeat (first | with_reducible exact Ext.refl _ | with_reducible refine Ext.drew ?_ | with_reducible refine Ext.drewN ?_ _ | with_reducible refine Ext.alloc ?_ _ | with_reducible refine Ext.setCell ?_ (by first | omega | (simp; done) | (simp; omega)) _)) hx1))
  have X1 : Hid (Ext w w1) := Lib.hid (Ext.trans (by repeat (first | with_reducible exact Ext.refl w | with_reducible refine Ext.drew ?_ | with_reducible refine Ext.drewN ?_ _ | with_reducible refine Ext.alloc ?_ _ | with_reducible refine Ext.setCell ?_ (by first | omega | (simp; done) | (simp; omega)) _)) hx1)
  clear hx1 z1
  go_wp2_with fail
  (with_reducible refine (hopTime_any u true _ HB.out).mono ?_)
  rintro e w2 ⟨rfl, hx2⟩
  replace x_3 : w2.cell? ⟨b1, o1 + 3, none⟩ = some (.int .i64 x3) := hx2.has (by first | exact x_3 | (simp [go_sem, World.cell?_alloc_past, x_3, rx, rxa, rxb, rxc, rxn]; done))
  have z2 := hx2.size
  try simp at z2
  replace rx : b1 < w2.heap.size := by omega
  replace rxa : b1 < w2.heap.size + 1 := by omega
  replace rxb : b1 < w2.heap.size + 1 + 1 := by omega
  replace rxc : b1 < w2.heap.size + 1 + 1 + 1 := by omega
  replace rxn : ¬ b1 = w2.heap.size := by omega
  replace HS := Lib.hid (HS.out.ext (Ext.trans (by repeat (first | with_reducible exact Ext.refl _ | with_reducible refine Ext.drew ?_ | with_reducible refine Ext.drewN ?_ _ | with_reducible refine Ext.alloc ?_ _ | with_reducible refine Ext.setCell ?_ (by first | omega | (simp; done) | (simp; omega)) _)) hx2))
  have X2 : Hid (Ext w w2) := Lib.hid (Ext.trans (by repeat (first | with_reducible exact X1.out | with_reducible refine Ext.drew ?_ | with_reducible refine Ext.drewN ?_ _ | with_reducible refine Ext.alloc ?_ _ | with_reducible refine Ext.setCell ?_ (by first | omega | (simp; done) | (simp; omega)) _)) hx2)
  clear X1 hx2 z2
  go_wp2_with fail
  refine bodyPost_ret (v := .tuple #[.int .i64 v, .bool true]) (by simp [results, Try.results19]; try rfl) rfl ⟨rfl, ?_⟩
  exact (by repeat (first | with_reducible exact X2.out | with_reducible refine Ext.drew ?_ | with_reducible refine Ext.drewN ?_ _ | with_reducible refine Ext.alloc ?_ _ | with_reducible refine Ext.setCell ?_ (by first | omega | (simp; done) | (simp; omega)) _))
theorem hopNext_ev (A : Option Addr) (n c : Nat) (l : List (Int × Int × Int × Int)) (u v : Int) (b : Bool) (w : World) (h : Sl w 4 A n c (l.flatMap hopC)) (hf : ∀ x ∈ l, Fits .i64 x.2.2.2) (hv : (v, b) = nxtV l u) :
    Calls Try.prog 19 #[.slice A n c, .int .i64 u] w fun e w' => e = .returned (.tuple #[.int .i64 v, .bool b]) ∧ Ext w w' := by
  have hl := h.rlen hopC_len (by decide)
  unfold nxtV at hv
  by_cases hc : (chkH l).1 = 0
  · rw [if_neg (by simpa using hc)] at hv
    obtain ⟨hc0, _, hmv⟩ := chkH_zero hc
    cases l with
    | nil =>
      obtain ⟨rfl, rfl⟩ := Prod.mk.inj hv
      exact hopNext_none A n c [] u _ _ _ w h hf rfl rfl (.inr (.inl (by simpa using hl.symm)))
    | cons x l =>
      simp only [List.head?_cons] at hv
      by_cases hu : 1 ≤ u ∧ u ≤ 1048576
      · rw [if_pos hu] at hv
        obtain ⟨rfl, rfl⟩ := Prod.mk.inj hv
        obtain ⟨x0, x1, x2, x3⟩ := x
        have hm := mayV_may (hmv 0 (x0, x1, x2, x3) rfl)
        exact hopNext_some A n c x0 x1 x2 x3 _ _ u w h hf hc0.symm (decide_eq_true hu).symm rfl hm.2.2.2.2 rfl
      · rw [if_neg hu] at hv
        obtain ⟨rfl, rfl⟩ := Prod.mk.inj hv
        exact hopNext_none A n c (x :: l) u _ _ _ w h hf rfl rfl (.inr (.inr (decide_eq_false hu)))
  · rw [if_pos hc] at hv
    obtain ⟨rfl, rfl⟩ := Prod.mk.inj hv
    exact hopNext_none A n c l u _ _ _ w h hf rfl rfl (.inl hc)
/-- the hops of an owner that come to a validator -/
def intoV (l : List (Int × Int × Int × Int)) (ow d : Int) : List (Int × Int × Int × Int) := l.filter (fun x => x.1 == ow && x.2.2.1 == d)
theorem intoV_take {l : List (Int × Int × Int × Int)} {k : Nat} {x : (Int × Int × Int × Int)} {ow d : Int} (h : l[k]? = some x) : intoV (l.take (k + 1)) ow d = if (x.1 == ow && x.2.2.1 == d) = true then intoV (l.take k) ow d ++ [x] else intoV (l.take k) ow d := by
  rw [hopC_take h]
  unfold intoV
  rw [List.filter_append]
  split
  · rename_i h1; simp [h1]
  · rename_i h1; simp [h1]
theorem intoV_len (l : List (Int × Int × Int × Int)) (ow d : Int) : (intoV l ow d).length ≤ l.length := List.length_filter_le _ _
set_option maxRecDepth 100000 in
set_option maxHeartbeats 4000000 in
theorem hopInto_any (A : Option Addr) (n c : Nat) (l : List (Int × Int × Int × Int)) (ow d : Int) (w : World) (h : Sl w 4 A n c (l.flatMap hopC)) (hn : n < 1099511627776) :
    Calls Try.prog 28 #[.slice A n c, .int .i64 ow, .int .i64 d] w (RetHop (intoV l ow d) w) := by
  have hl := h.rlen hopC_len (by decide)
  have s1 := h.small
  have HS := Lib.hid h
  have HL := Lib.hid hl
  obtain ⟨i0, hi0, hz0, hz1, hz2⟩ := info_parts hop_info
  clear h hl
  go_enter Try.func28, Try.ntmps28
  go_wp2
  go_loopg [7, 12] n (fun gh q i wx => gh ≤ n ∧ i = .int .i64 ((n - gh : Nat) : Int) ∧ Hid (OwnHop wx w.heap.size q (intoV (l.take (n - gh)) ow d).length (intoV (l.take (n - gh)) ow d)) ∧ Ext w wx)
  case atStart => exact ⟨Nat.le_refl _, by simp, Lib.hid (by rw [Nat.sub_self]; exact OwnHop.nil _ _), Ext.refl _⟩
  case round =>
    obtain ⟨hg, hi, ho, hx⟩ := hrel
    obtain ⟨k, hk⟩ : ∃ k, k = n - gk := ⟨_, rfl⟩
    rw [← hk] at hi ho
    subst hi
    have XR := Lib.hid hx
    by_cases hz : gk = 0
    · have hkn : ¬ (k : Int) < n := by omega
      have hkl : l.take k = l := List.take_of_length_le (by have := HL.out; omega)
      rw [hkl] at ho
      clear hx hk hg hz hkl
      go_wp2
      go_ret
      exact RetHop.mk ho.out XR.out
    · have hkn : (k : Int) < n := by omega
      have hk1 : k < l.length := by have := HL.out; omega
      have hrm := Ext.size hx
      obtain ⟨b1, o1, rfl, hb1, hc1⟩ := HS.out.rec_ hopC_len (show 0 < n from by omega)
      obtain ⟨xv, hxx⟩ : ∃ x, x = l[k] := ⟨_, rfl⟩
      have hlk : l[k]? = some xv := by rw [hxx]; exact List.getElem?_eq_getElem hk1
      have htk := intoV_take (ow := ow) (d := d) hlk
      have hlen : (intoV (l.take k) ow d).length < 1099511627776 := by have := intoV_len (l.take k) ow d; rw [List.length_take] at this; omega
      have x_0 := XR.out.has (hc1 k xv hlk 0 _ rfl)
      have x_1 := XR.out.has (hc1 k xv hlk 1 _ rfl)
      have x_2 := XR.out.has (hc1 k xv hlk 2 _ rfl)
      have x_3 := XR.out.has (hc1 k xv hlk 3 _ rfl)
      obtain ⟨x0, x1, x2, x3⟩ := xv
      simp only at x_0 x_1 x_2 x_3 htk
      rw [Nat.add_zero] at x_0
      rw [← Nat.add_assoc] at x_1 x_2 x_3
      have HK := Lib.hid (And.intro hk (And.intro hg hz))
      have HLN := Lib.hid hlen
      clear hx hk hg hz hc1 hxx hk1 hlk hlen
      by_cases hE : (x0 == ow && x2 == d) = true
      · rw [if_pos hE] at htk
        have HT := Lib.hid htk
        obtain ⟨e1, e2⟩ : (x0 == ow) = true ∧ (x2 == d) = true := by simpa using hE
        clear htk hE
        go_wp2_with (at_builtin; refine wpList_append_new (wr.alloc (.cells #[.int .i64 x0, .int .i64 x1, .int .i64 x2, .int .i64 x3] 24)) rfl _ _ 22 rfl w.heap.size 24 i0 (.agg #[.int .i64 0, .int .i64 0, .int .i64 0, .int .i64 0]) 4 32 Try.underlying22 hi0 hz0 hz1 hz2 rfl (by decide) u7 _ _ (by rfl) (ho.out.ext ((Ext.refl wr).alloc _)) #[.int .i64 x0, .int .i64 x1, .int .i64 x2, .int .i64 x3] 1 (by first | rfl | (simp [Act.eval]; done) | (simp [Act.eval, go_sem]; done)) rfl (by intro u hu; simp at hu; rcases hu with rfl | rfl | rfl | rfl <;> rfl) HLN.out (by decide) (by first | omega | (simp; omega)) ?_; intro v1 w1 hown1 hb1)
        go_roundg (gk - 1)
        case measure => have := HK.out; omega
        case rel =>
          refine ⟨by have := HK.out; omega, num_eq (by have := HK.out; omega), Lib.hid ?_, Below.trans (Ext.trans XR.out ((Ext.refl wr).alloc _)) hb1⟩
          rw [show n - (gk - 1) = k + 1 from by have := HK.out; omega, HT.out]
          unfold OwnHop
          rw [List.flatMap_append, List.length_append]
          exact hown1
      · rw [if_neg hE] at htk
        have HT := Lib.hid htk
        clear htk
        by_cases e1 : (x0 == ow) = true
        · have e2 : (x2 == d) = false := by rw [e1] at hE; simpa using hE
          clear hE
          go_wp2_with fail
          go_roundg (gk - 1)
          case measure => have := HK.out; omega
          case rel =>
            refine ⟨by have := HK.out; omega, num_eq (by have := HK.out; omega), Lib.hid ?_, (by repeat (first | with_reducible exact XR.out | with_reducible refine Ext.drew ?_ | with_reducible refine Ext.drewN ?_ _ | with_reducible refine Ext.alloc ?_ _ | with_reducible refine Ext.setCell ?_ (by first | omega | (simp; done) | (simp; omega)) _))⟩
            rw [show n - (gk - 1) = k + 1 from by have := HK.out; omega, HT.out]
            exact ho.out.ext ((Ext.refl wr).alloc _)
        · replace e1 : (x0 == ow) = false := by simpa using e1
          clear hE
          go_wp2_with fail
          go_roundg (gk - 1)
          case measure => have := HK.out; omega
          case rel =>
            refine ⟨by have := HK.out; omega, num_eq (by have := HK.out; omega), Lib.hid ?_, (by repeat (first | with_reducible exact XR.out | with_reducible refine Ext.drew ?_ | with_reducible refine Ext.drewN ?_ _ | with_reducible refine Ext.alloc ?_ _ | with_reducible refine Ext.setCell ?_ (by first | omega | (simp; done) | (simp; omega)) _))⟩
            rw [show n - (gk - 1) = k + 1 from by have := HK.out; omega, HT.out]
            exact ho.out.ext ((Ext.refl wr).alloc _)
end
end Go.Proofs.Ytjdpgapmdmpjjaa
