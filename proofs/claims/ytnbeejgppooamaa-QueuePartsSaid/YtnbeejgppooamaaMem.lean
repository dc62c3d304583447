/- Slices in memory: what one reads as, what one owns, an append of one new element. Conditions stand in each lemma. -/
import Derived.Test.YtnbeejgppooamaaExt
import Derived.Laws.OwnMore
import Derived.Laws.AppendOwn
import Derived.OwnWalk
set_option linter.unusedVariables false
set_option linter.unusedSimpArgs false
namespace Go.Proofs.Ytnbeejgppooamaa
open Go.RowKit

theorem addr_add (b o j : Nat) : (⟨b, o, none⟩ : Addr).add j = ⟨b, o + j, none⟩ := by unfold Addr.add; split <;> simp_all
/-- the slice value v, of n elements of sz cells each, reads as the cells xs -/
def Sl (w : World) (sz : Nat) (A : Option Addr) (n c : Nat) (xs : List Value) : Prop :=
  xs.length = n * sz ∧ n ≤ c ∧ c ≤ maxLen ∧ (0 < n → ∃ b o, A = some ⟨b, o, none⟩ ∧ b < w.heap.size ∧ ∀ j u, xs[j]? = some u → w.cell? ⟨b, o + j, none⟩ = some u)
section
variable {w w' : World} {sz n c : Nat} {A : Option Addr} {xs : List Value}
theorem Sl.nil (w : World) (sz : Nat) : Sl w sz none 0 0 [] := ⟨by simp, Nat.le_refl _, by simp [maxLen], fun h => absurd h (by omega)⟩
theorem Sl.len (h : Sl w sz A n c xs) : xs.length = n * sz := h.1
theorem Sl.small (h : Sl w sz A n c xs) : n ≤ 9223372036854775807 := by have h1 := h.2.1; have h2 := h.2.2.1; simp [maxLen] at h2; omega
theorem Sl.at_ (h : Sl w sz A n c xs) (hn : 0 < n) : ∃ b o, A = some ⟨b, o, none⟩ ∧ b < w.heap.size ∧ ∀ j u, xs[j]? = some u → w.cell? ⟨b, o + j, none⟩ = some u := h.2.2.2 hn
theorem Sl.keep (h : Sl w sz A n c xs) (hs : w.heap.size ≤ w'.heap.size) (hk : ∀ b o, b < w.heap.size → w'.cell? ⟨b, o, none⟩ = w.cell? ⟨b, o, none⟩) : Sl w' sz A n c xs :=
  ⟨h.1, h.2.1, h.2.2.1, fun hn => by
    obtain ⟨b, o, e, hb, hc⟩ := h.2.2.2 hn
    exact ⟨b, o, e, by omega, fun j u hu => (hk _ _ hb).trans (hc j u hu)⟩⟩
theorem Sl.ext (h : Sl w sz A n c xs) (hx : Ext w w') : Sl w' sz A n c xs := h.keep hx.size fun b o hb => hx.cells.1 b o hb
theorem Sl.take (h : Sl w sz A n c xs) {m : Nat} (hm : m ≤ n) : Sl w sz A m c (xs.take (m * sz)) := by
  refine ⟨?_, by have := h.2.1; omega, h.2.2.1, fun hn => ?_⟩
  · rw [List.length_take, h.1]
    exact Nat.min_eq_left (Nat.mul_le_mul_right _ hm)
  · obtain ⟨b, o, e, hb, hc⟩ := h.2.2.2 (by omega)
    refine ⟨b, o, e, hb, fun j u hu => hc j u ?_⟩
    rw [List.getElem?_take] at hu
    split at hu
    · exact hu
    · cases hu
theorem Sl.drop (h : Sl w sz A n c xs) {k : Nat} (hk : k ≤ n) : Sl w sz (if c = k then A else A.map (·.add (k * sz))) (n - k) (c - k) (xs.drop (k * sz)) := by
  refine ⟨?_, by have := h.2.1; omega, by have := h.2.2.1; omega, fun hn => ?_⟩
  · rw [List.length_drop, h.1, Nat.sub_mul]
  · obtain ⟨b, o, rfl, hb, hc⟩ := h.2.2.2 (by omega)
    have := h.2.1
    rw [if_neg (by omega)]
    refine ⟨b, o + k * sz, by simp [addr_add], hb, fun j u hu => ?_⟩
    rw [List.getElem?_drop] at hu
    rw [Nat.add_assoc]
    exact hc _ u hu
theorem Sl.own {base : Nat} {e : TypeId} (h : w.ownsRow base e sz (.slice A n c) n xs) : Sl w sz A n c xs := by
  rcases h.2 with ⟨h', rfl⟩ | ⟨g, cap, cur, h', _, hg, hnc, hcm, hcs, htake⟩
  · injection h' with h1 h2 h3
    subst h1; subst h3
    exact ⟨h.1, Nat.le_refl _, by simp [maxLen], fun hn => absurd hn (by omega)⟩
  · injection h' with h1 h2 h3
    subst h1; subst h3
    refine ⟨h.1, hnc, hcm, fun hn => ⟨g, 0, rfl, (Array.getElem?_eq_some_iff.1 hg).1, fun j u hu => ?_⟩⟩
    rw [Nat.zero_add, cell_of_row w g j cur e (0, 0) hg]
    rw [← htake, List.getElem?_take] at hu
    split at hu
    · simpa using hu
    · cases hu
theorem Sl.drop0 (h : Sl w sz A 0 c xs) : xs = [] := List.eq_nil_of_length_eq_zero (by simpa using h.1)
end
theorem own_nil (w : World) (base : Nat) (e : TypeId) (sz : Nat) : w.ownsRow base e sz (.slice none 0 0) 0 [] := World.ownsRow_nil w base e sz
/-- an owned slice, its parts -/
theorem own_parts {w : World} {base : Nat} {e : TypeId} {sz n : Nat} {v : Value} {xs : List Value} (h : w.ownsRow base e sz v n xs) : ∃ A c, v = .slice A n c ∧ Sl w sz A n c xs := by
  rcases h.2 with ⟨rfl, rfl⟩ | ⟨g, cap, cur, rfl, rest⟩
  · exact ⟨_, _, rfl, Sl.own h⟩
  · exact ⟨_, _, rfl, Sl.own h⟩

/-- integers of one kind, as cells -/
def iv (k : IntKind) (l : List Int) : List Value := l.map (Value.int k)
theorem iv_len (k : IntKind) (l : List Int) : (iv k l).length = l.length := List.length_map _
theorem iv_get (k : IntKind) (l : List Int) (j : Nat) (h : j < l.length) : (iv k l)[j]? = some (.int k (l.getD j 0)) := by
  unfold iv
  rw [List.getElem?_map, List.getD_eq_getElem?_getD, List.getElem?_eq_getElem h]
  rfl
/-- the cell of an element -/
theorem Sl.cell {w : World} {A : Option Addr} {n c : Nat} {k : IntKind} {l : List Int} (h : Sl w 1 A n c (iv k l)) {j : Nat} (hj : j < n) :
    ∃ b o, A = some ⟨b, o, none⟩ ∧ b < w.heap.size ∧ ∀ j, j < n → w.cell? ⟨b, o + j, none⟩ = some (.int k (l.getD j 0)) := by
  obtain ⟨b, o, e, hb, hc⟩ := h.at_ (by omega)
  have hl := h.len
  rw [iv_len] at hl
  exact ⟨b, o, e, hb, fun j hj => hc j _ (iv_get k l j (by omega))⟩
theorem Sl.ilen {w : World} {A : Option Addr} {n c : Nat} {k : IntKind} {l : List Int} (h : Sl w 1 A n c (iv k l)) : l.length = n := by
  have := h.len; rw [iv_len] at this; omega
theorem Sl.itake {w : World} {A : Option Addr} {n c m : Nat} {k : IntKind} {l : List Int} (h : Sl w 1 A n c (iv k l)) (hm : m ≤ n) : Sl w 1 A m c (iv k (l.take m)) := by
  have := h.take hm
  unfold iv at *
  rwa [Nat.mul_one, ← List.map_take] at this

/-- append of one element that the operation itself has just laid: the new slice is owned, nothing below 'base' has turned -/
theorem wpList_append_new {P : Program} (w : World) {ops : Array Oper} {rest : List Oper} {o : Oper} {a : Act} {Q : Exit → Act → World → Prop} (hgd : o.guard = none) (s x : Operand) (t : TypeId)
    (ho : o.op = .call { callee := .builtin .append, args := #[s, x], argTypes := #[t, t] })
    (base : Nat) (e : TypeId) (i : TypeInfo) (z : Value) (size bytes : Nat) (ht : P.underlying t = some (.slice e)) (hi : P.info? e = some i) (hz : i.zero = some z)
    (hsize : i.size = size) (hby : i.bytes = bytes) (hzs : z.cells.size = size) (hsz : 0 < size)
    (v : Value) (n : Nat) (xs : List Value) (hs : a.eval s = v) (hown : w.ownsRow base e size v n xs) (news : Array Value) (c : Nat)
    (hx : a.eval x = .slice (some ⟨w.heap.size, 0, none⟩) 1 c) (hl : news.size = size) (h1 : ∀ u ∈ news.toList, u.oneCell' = true)
    (hn : n < 1099511627776) (hb128 : bytes ≤ 127) (hbase : base ≤ w.heap.size)
    (h : ∀ v' w', w'.ownsRow base e size v' (n + 1) (xs ++ news.toList) → Below base w w' → wpList P ops Q rest (a.put o.dst v') w') :
    wpList P ops Q (o :: rest) a (w.alloc (.cells news e)) := by
  have hcells : ∀ j u, news.toList[j]? = some u → (w.alloc (.cells news e)).cell? ((⟨w.heap.size, 0, none⟩ : Addr).add j) = some u := by
    intro j u hu
    rw [addr_add, Nat.zero_add, cell_of_row _ _ j news e (0, 0) (heap_alloc_new w _)]
    simpa using hu
  have hby2 : (n + 1) * bytes ≤ 140737488355328 := by
    have : (n + 1) * bytes ≤ 1099511627776 * 127 := Nat.mul_le_mul (by omega) hb128
    omega
  refine wpList_append_own (w.alloc (.cells news e)) hgd s x t ho base e i z size bytes ht hi hz hsize hby hzs hsz v n xs hs (hown.alloc _) ⟨w.heap.size, 0, none⟩ 1 c news.toList hx (by simpa using hl) hcells h1
    (by simp [maxLen]; omega) hby2 (by simp; omega) ?_
  intro v' w' h2 h3 h4
  refine h v' w' h2 ?_
  exact ((Below.refl base w).alloc hbase _).grown h3 (by simp; omega) (fun k hk => (hown.lt k hk).1)
theorem Ext.below {a w w' : World} (h : Ext a w) (k : Below a.heap.size w w') : Ext a w' := Below.trans h k
theorem iv_snoc (k : IntKind) (l : List Int) (x : Int) : iv k l ++ [Value.int k x] = iv k (l ++ [x]) := by simp [iv]
end Go.Proofs.Ytnbeejgppooamaa
