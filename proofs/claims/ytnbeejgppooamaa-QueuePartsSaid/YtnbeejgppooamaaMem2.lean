/- Slices in memory, more: an append of a whole slice onto an owned one; a slice that was just laid. Conditions stand in each lemma. -/
import Derived.Test.YtnbeejgppooamaaMem
import Derived.Maps.AppendAt
set_option linter.unusedVariables false
set_option linter.unusedSimpArgs false
namespace Go.Proofs.Ytnbeejgppooamaa
open Go.RowKit

theorem run_append_none {P : Program} (w : World) (base : Nat) (t ty e : TypeId) (i : TypeInfo) (size : Nat) (ht : P.underlying t = some (.slice e)) (hi : P.info? e = some i)
    (v : Value) (n : Nat) (xs : List Value) (hown : w.ownsRow base e size v n xs) (c : Nat) : (Builtin.append_ #[t, t] ty #[v, .slice none 0 c]).run P w = .ok v w := by
  rcases hown.2 with ⟨rfl, rfl⟩ | ⟨g, cap, cur, rfl, _, _, hnc, _⟩
  · simp [Builtin.append_, run_underlying ht, sizeOf, typeInfo, hi, Builtin.lenOf, Builtin.firstCells]
  · simp [Builtin.append_, run_underlying ht, sizeOf, typeInfo, hi, Builtin.lenOf, Builtin.firstCells, hnc, storeCells]

/-- append of a slice that reads as cells onto an owned slice: owned anew, nothing below 'base' has turned -/
theorem wpList_append_sl {P : Program} (w : World) {ops : Array Oper} {rest : List Oper} {o : Oper} {a : Act} {Q : Exit → Act → World → Prop} (hgd : o.guard = none) (s x : Operand) (t : TypeId)
    (ho : o.op = .call { callee := .builtin .append, args := #[s, x], argTypes := #[t, t] })
    (base : Nat) (e : TypeId) (i : TypeInfo) (z : Value) (size bytes : Nat) (ht : P.underlying t = some (.slice e)) (hi : P.info? e = some i) (hz : i.zero = some z)
    (hsize : i.size = size) (hby : i.bytes = bytes) (hzs : z.cells.size = size) (hsz : 0 < size)
    (v : Value) (n : Nat) (xs : List Value) (hs : a.eval s = v) (hown : w.ownsRow base e size v n xs) (A : Option Addr) (m c : Nat) (news : List Value)
    (hx : a.eval x = .slice A m c) (hS : Sl w size A m c news) (h1 : ∀ u ∈ news, u.oneCell' = true)
    (hn : n + m < 1099511627776) (hb128 : bytes ≤ 127) (hbase : base ≤ w.heap.size)
    (h : ∀ v' w', w'.ownsRow base e size v' (n + m) (xs ++ news) → Below base w w' → wpList P ops Q rest (a.put o.dst v') w') :
    wpList P ops Q (o :: rest) a w := by
  have hby2 : (n + m) * bytes ≤ 140737488355328 := by
    have : (n + m) * bytes ≤ 1099511627776 * 127 := Nat.mul_le_mul (by omega) hb128
    omega
  rcases A with _ | ad
  · have hm : m = 0 := by
      rcases Nat.eq_zero_or_pos m with h0 | h0
      · exact h0
      · obtain ⟨_, _, hh, _⟩ := hS.at_ h0
        cases hh
    subst hm
    have hnw : news = [] := hS.drop0
    subst hnw
    have hrun := run_append_none (P := P) w base t o.type e i size ht hi v n xs hown c
    have hk := h v w (by simpa using hown) (Below.refl _ _)
    refine wpList_plain hgd fun K hK => ?_
    unfold Oper.wp execOp
    simp only [ho, resolve, invoke, builtin, Sem.run_bind, Sem.run_pure, Result.andThen_ok, List.map_toArray, List.map_cons, List.map_nil, hs, hx, hrun]
    exact hK _ _ hk
  · have hcells : ∀ j u, news[j]? = some u → w.cell? (ad.add j) = some u := by
      intro j u hu
      rcases Nat.eq_zero_or_pos m with h0 | h0
      · subst h0
        rw [hS.drop0] at hu
        simp at hu
      · obtain ⟨b, o', hh, _, hc⟩ := hS.at_ h0
        injection hh with hh
        subst hh
        rw [addr_add]
        exact hc j u hu
    refine wpList_append_own w hgd s x t ho base e i z size bytes ht hi hz hsize hby hzs hsz v n xs hs hown ad m c news hx hS.len hcells h1
      (by simp [maxLen]; omega) hby2 hbase ?_
    intro v' w' h2 h3 h4
    exact h v' w' h2 ((Below.refl base w).grown h3 hbase (fun k hk => (hown.lt k hk).1))

/-- a slice that was just laid -/
theorem sl_new (w : World) (e : TypeId) (sz : Nat) (cs : Array Value) (n : Nat) (h : cs.size = n * sz) (hn : n ≤ 1000000) : Sl (w.alloc (.cells cs e)) sz (some ⟨w.heap.size, 0, none⟩) n n cs.toList := by
  refine ⟨by simpa using h, Nat.le_refl _, by simp [maxLen]; omega, fun _ => ⟨w.heap.size, 0, rfl, by simp, fun j u hu => ?_⟩⟩
  rw [Nat.zero_add, cell_of_row _ _ j cs e (0, 0) (heap_alloc_new w _)]
  simpa using hu
theorem iv_one {k : IntKind} {l : List Int} : ∀ u ∈ iv k l, u.oneCell' = true := by
  intro u hu
  unfold iv at hu
  obtain ⟨x, _, rfl⟩ := List.mem_map.1 hu
  rfl
theorem own_empty (w : World) (e : TypeId) (sz : Nat) : (w.alloc (.cells #[] e)).ownsRow w.heap.size e sz (.slice (some ⟨w.heap.size, 0, none⟩) 0 0) 0 [] :=
  World.ownsRow_lit w #[] 0 (Nat.le_refl _) (by simp [maxLen]) (by simp)
end Go.Proofs.Ytnbeejgppooamaa
